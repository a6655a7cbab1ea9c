/- The library's sort by a function,walked: whole. Conditions: what is compared is answered by a pure function,a strict weak order; at most 255 numbers. -/
import Derived.Test.YtlnkchkhffkofaaGreatDoorTOUD
import Derived.Sort.LotD3
import Derived.Sort.AssemblyPlain
import Derived.Test.YtlnkchkhffkofaaGreatDoorTOUA
import Derived.Test.YtlnkchkhffkofaaGreatDoorMv
import Derived.Test.YtlnkchkhffkofaaGreatDoorFwZb
import Derived.Test.YtlnkchkhffkofaaGreatDoorTOTN
set_option linter.all false
namespace Go.Id.Tryz
open Go Go.Id Go.Proofs
set_option maxRecDepth 100000
section
variable {α:Type} [Inhabited α] (emb:α→Int) (tl:List IV) {cf:α→α→Int} {g:Nat} {first cap:List IV} {id:Nat}
theorem SKp.up {d:Array α}{σ u v:Store}(h:SKp emb tl id d σ u)(h1:v.obj=u.obj)(h2:u.next≤v.next):SKp emb tl id d σ v:=⟨Nat.le_trans h.next h2,fun i hi hn=>by rw[h1]; exact h.other i hi hn,by rw[h1]; exact h.row⟩
theorem iu6 (hC:cf4 emb cf g first cap)(hO:Go.Sort.SWO (ltOf cf)):∀ (N a b lim:Nat) (d:Array α) (σ:Store),b-a<N→a≤b→b≤d.size→d.size<256→lim<2^40→Go.Sort.Below (ltOf cf) a b d→id<σ.next→σ.obj id=some (.row (az7 emb tl d)) →
  C Tryz.prog EE 71 [.slice id 0 d.size 1,.int .i64 a,.int .i64 b,.int .i64 lim,.func (.func g) first cap] σ fun v s=>v=.tuple []∧∃ d',Go.Sort.PermIn a b d d'∧Go.Sort.SortedIn (ltOf cf) a b d'∧SKp emb tl id d' σ s:=by
 intro N
 induction N with
 | zero=>intro a b lim d σ h; exact absurd h (Nat.not_lt_zero _)
 | succ N ih=>
 intro a b lim d σ hN hab hb hz hlim hB hid ho;refine gg7 fok71 (nZ rfl) ?_;simp only[ic71];refine aa9 (ab2 ?_);simp only[go_sem];refine aa9 (ab2 ?_);simp only[go_sem];refine ae2 (eh4 (fun m fr t=>∃ (a' b' lim':Nat) (wb wp:Bool) (dk:Array α),fr=[(0,.slice id 0 d.size 1),(1,.int .i64 a'),(2,.int .i64 b'),(3,.int .i64 lim'),(4,.func (.func g) first cap),(10,.bool wb),(11,.bool wp)]∧m=b'-a'∧a≤a'∧a'≤b'∧b'≤b∧lim'≤lim∧dk.size=d.size∧Go.Sort.Below (ltOf cf) a' b' dk∧SKp emb tl id dk σ t∧∀ R,Go.Sort.PermIn a' b' dk R→Go.Sort.SortedIn (ltOf cf) a' b' R→Go.Sort.PermIn a b d R∧Go.Sort.SortedIn (ltOf cf) a b R) (b-a) ⟨a,b,lim,true,true,d,rfl,rfl,Nat.le_refl _,hab,Nat.le_refl _,Nat.le_refl _,rfl,hB,⟨Nat.le_refl _,fun _ _ _=>rfl,ho⟩,fun R h1 h2=>⟨h1,h2⟩⟩ ?_);rintro m fr t ⟨a',b',lim',wb,wp,dk,rfl,rfl,haa,hab',hbb,hll,hsz,hB,hS,hF⟩;have hidt:id<t.next:=Nat.lt_of_lt_of_le hid hS.next;have wlen:=ff1 (a:=b') (b:=a') hab' (by omega);refine ae2 (aa9 (ab2 ?_));simp only[go_sem,wlen]
 -- few
 refine aa9 (ab2 ?_);by_cases h12:b'-a'≤12
 ·have c1:((b'-a':Nat):Int)≤12:=by omega
  have hi:=fx7 emb tl hC dk a' b' hab' (by omega) (by omega) hS.row;rw[hsz] at hi;simp only[go_sem,c1];refine ad1 fok150 hi ?_;rintro v s ⟨rfl,h1⟩;refine ⟨h1.next,?_⟩;obtain ⟨q1,q2⟩:=Go.Sort.insertionSort_holds hO dk a' b' hab' (by omega);obtain ⟨f1,f2⟩:=hF _ q1 q2;simp only[go_sem];exact ⟨_,f1,f2,hS.trans emb tl h1.kp⟩
 have c1:¬ ((b'-a':Nat):Int)≤12:=by omega
 simp only[go_sem,c1]
 -- the heap
 refine aa9 (ab2 ?_);by_cases h0:lim'=0
 ·have c2:((lim':Nat):Int)=0:=by omega
  have hi:=fe2 emb tl hC dk a' b' (by omega) (by omega) (by omega) hS.row;rw[hsz] at hi;simp only[go_sem,c2];refine ad1 fok151 hi ?_;rintro v s ⟨rfl,h1⟩;refine ⟨h1.next,?_⟩;obtain ⟨q1,q2⟩:=Go.Sort.heapSort_holds hO dk a' b' hab' (by omega);obtain ⟨f1,f2⟩:=hF _ q1 q2;simp only[go_sem];exact ⟨_,f1,f2,hS.trans emb tl h1.kp⟩
 have c2:¬ ((lim':Nat):Int)=0:=by omega
 simp only[go_sem,c2]
 -- patterns
 refine aa9 (ay9 (Q:=fun e f s=>e=.normal∧∃ (lim2:Nat) (rst:Frm) (dj:Array α),f=(0,.slice id 0 d.size 1)::(1,.int .i64 a')::(2,.int .i64 b')::(3,.int .i64 lim2)::(4,.func (.func g) first cap)::(10,.bool wb)::(11,.bool wp)::(12,.int .i64 (b'-a':Nat))::rst∧lim2≤lim∧Go.Sort.PermIn a' b' dk dj∧SKp emb tl id dj σ s) (ab2 ?_) ?_)
 ·cases wb with
  | true=>
   simp only[go_sem]
   exact ⟨lim',_,dk,rfl,hll,Go.Sort.permIn_refl dk a' b',hS.up emb tl rfl (Nat.le_refl _)⟩
  | false=>
   have hi:=ho5 emb tl dk a' b' (.func (.func g) first cap) (by omega) (by omega) (by omega) hidt hS.row;rw[hsz] at hi;have wl:=be9 (a:=lim') (by omega) (by omega);simp only[go_sem];refine ad1 fok152 hi ?_;rintro v s ⟨rfl,dj,hp,h1⟩;refine ⟨h1.next,?_⟩;simp only[go_sem,wl];exact ⟨lim'-1,_,dj,rfl,by omega,hp,(hS.trans emb tl h1).up emb tl rfl (Nat.le_refl _)⟩
 rintro e f t ⟨rfl,lim2,rst,d2,rfl,hl2,hP2,hS2⟩;have hs2:d2.size=d.size:=by rw[hP2.1]; exact hsz
 have hid2:id<t.next:=Nat.lt_of_lt_of_le hid hS2.next;clear c1 c2 wlen hS hidt;simp only[go_sem]
 -- the pivot
 refine aa9 (ab2 ?_);have hch:=gq1 emb tl hC d2 a' b' (by omega) (by omega) (by omega) hid2 hS2.row;rw[hs2] at hch;simp only[go_sem];refine ad1 fok153 hch ?_;rintro v t3 ⟨⟨pv,hh,rfl,hp1,hp2⟩,h3⟩;refine ⟨h3.next,?_⟩;have hS3:=hS2.trans emb tl h3;have hid3:id<t3.next:=Nat.lt_of_lt_of_le hid hS3.next;clear h3;simp only[go_sem];refine aa9 (ay9 (Q:=fun e f s=>e=.normal∧∃ (pv:Nat) (hh:Int) (rst:Frm) (dj:Array α),f=(0,.slice id 0 d.size 1)::(1,.int .i64 a')::(2,.int .i64 b')::(3,.int .i64 lim2)::(4,.func (.func g) first cap)::(10,.bool wb)::(11,.bool wp)::(12,.int .i64 (b'-a':Nat))::(13,.int .i64 pv)::(14,.int .i64 hh)::rst∧a'≤pv∧pv<b'∧Go.Sort.PermIn a' b' dk dj∧SKp emb tl id dj σ s) (ab2 ?_) ?_)
 ·by_cases e2:hh=2
  ·have hrv:=fy5 emb tl d2 a' b' (.func (.func g) first cap) (f:=[]) (by omega) (by omega) (by omega) hS3.row;rw[hs2] at hrv;have w1:=be9 (a:=b') (by omega) (by omega);have w2:=ff1 (a:=pv) (b:=a') hp1 (by omega);have w3:=ff1 (a:=b'-1) (b:=pv-a') (by omega) (by omega);simp only[go_sem,e2];refine ad1 fok154 hrv ?_;rintro v s ⟨rfl,h1⟩;refine ⟨h1.next,?_⟩;simp only[go_sem,w1,w2,w3];exact ⟨_,_,_,_,rfl,by omega,by omega,Go.Sort.permIn_trans _ _ _ a' b' hP2 (Go.Sort.reverseRange_holds d2 a' b' hab' (by omega)),(hS3.trans emb tl h1.kp).up emb tl rfl (Nat.le_refl _)⟩
  ·simp only[go_sem,e2];exact ⟨_,_,_,_,rfl,hp1,hp2,hP2,hS3.up emb tl rfl (Nat.le_refl _)⟩
 clear hS3 hid3 hp1 hp2 pv hh hch;rintro e f t ⟨rfl,pv,hh,rst,d3,rfl,hp1,hp2,hP3,hS3⟩;have hs3:d3.size=d.size:=by rw[hP3.1]; exact hsz
 clear hP2 hS2 hs2 hid2;simp only[go_sem]
 -- nearly in order
 refine aa9 (ay9 (Q:=fun e f s=>(e=.ret∧∃ dj,Go.Sort.PermIn a' b' dk dj∧Go.Sort.SortedIn (ltOf cf) a' b' dj∧SKp emb tl id dj σ s)∨(e=.normal∧∃ (rst:Frm) (dj:Array α),f=(0,.slice id 0 d.size 1)::(1,.int .i64 a')::(2,.int .i64 b')::(3,.int .i64 lim2)::(4,.func (.func g) first cap)::(10,.bool wb)::(11,.bool wp)::(12,.int .i64 (b'-a':Nat))::(13,.int .i64 pv)::rst∧Go.Sort.PermIn a' b' dk dj∧SKp emb tl id dj σ s)) (ab2 ?_) ?_)
 ·by_cases hgo:(wb=true∧wp=true)∧hh=1
  ·obtain ⟨⟨rfl,rfl⟩,e1⟩:=hgo;have hpi:=fy9 emb tl hC d3 a' b' (by omega) (by omega) (by omega) hS3.row;rw[hs3] at hpi;have hB3:=hB.perm (by omega) hP3;obtain ⟨q1,q2⟩:=Go.Sort.partialInsertionSort_holds hO d3 a' b' (by omega) (by omega) hB3;simp only[go_sem,e1];refine ad1 fok155 hpi ?_;rintro v s ⟨rfl,h1⟩;refine ⟨h1.next,?_⟩;generalize Go.Sort.partialInsertionSort (ltOf cf) d3 a' b'=pr at *;obtain ⟨dp,bp⟩:=pr
   cases bp with
   | true=>
    simp only[go_sem]
    first|exact .inl ⟨rfl,dp,Go.Sort.permIn_trans _ _ _ a' b' hP3 q1,q2 rfl,hS3.trans emb tl h1.kp⟩|exact .inl ⟨trivial,dp,Go.Sort.permIn_trans _ _ _ a' b' hP3 q1,q2 rfl,hS3.trans emb tl h1.kp⟩|exact .inl ⟨dp,Go.Sort.permIn_trans _ _ _ a' b' hP3 q1,q2 rfl,hS3.trans emb tl h1.kp⟩|exact ⟨dp,Go.Sort.permIn_trans _ _ _ a' b' hP3 q1,q2 rfl,hS3.trans emb tl h1.kp⟩
   | false=>
    simp only[go_sem]
    first|exact .inr ⟨rfl,_,dp,rfl,Go.Sort.permIn_trans _ _ _ a' b' hP3 q1,(hS3.trans emb tl h1.kp).up emb tl rfl (Nat.le_refl _)⟩|exact .inr ⟨trivial,_,dp,rfl,Go.Sort.permIn_trans _ _ _ a' b' hP3 q1,(hS3.trans emb tl h1.kp).up emb tl rfl (Nat.le_refl _)⟩|exact .inr ⟨_,dp,rfl,Go.Sort.permIn_trans _ _ _ a' b' hP3 q1,(hS3.trans emb tl h1.kp).up emb tl rfl (Nat.le_refl _)⟩|exact ⟨_,dp,rfl,Go.Sort.permIn_trans _ _ _ a' b' hP3 q1,(hS3.trans emb tl h1.kp).up emb tl rfl (Nat.le_refl _)⟩
  ·have hsk:(wb&&wp&&decide (hh=1))=false:=by
    cases wb<;>cases wp<;>simp at hgo ⊢;exact hgo
   cases wb with
   | false=>
    simp only[go_sem]
    first|exact .inr ⟨rfl,_,d3,rfl,hP3,hS3.up emb tl rfl (Nat.le_refl _)⟩|exact .inr ⟨trivial,_,d3,rfl,hP3,hS3.up emb tl rfl (Nat.le_refl _)⟩|exact .inr ⟨_,d3,rfl,hP3,hS3.up emb tl rfl (Nat.le_refl _)⟩|exact ⟨_,d3,rfl,hP3,hS3.up emb tl rfl (Nat.le_refl _)⟩
   | true=>
    cases wp with
    | false=>
     simp only[go_sem]
     first|exact .inr ⟨rfl,_,d3,rfl,hP3,hS3.up emb tl rfl (Nat.le_refl _)⟩|exact .inr ⟨trivial,_,d3,rfl,hP3,hS3.up emb tl rfl (Nat.le_refl _)⟩|exact .inr ⟨_,d3,rfl,hP3,hS3.up emb tl rfl (Nat.le_refl _)⟩|exact ⟨_,d3,rfl,hP3,hS3.up emb tl rfl (Nat.le_refl _)⟩
    | true=>
     have e1:¬ hh=1:=by simpa using hsk
     simp only[go_sem,e1]
     first|exact .inr ⟨rfl,_,d3,rfl,hP3,hS3.up emb tl rfl (Nat.le_refl _)⟩|exact .inr ⟨trivial,_,d3,rfl,hP3,hS3.up emb tl rfl (Nat.le_refl _)⟩|exact .inr ⟨_,d3,rfl,hP3,hS3.up emb tl rfl (Nat.le_refl _)⟩|exact ⟨_,d3,rfl,hP3,hS3.up emb tl rfl (Nat.le_refl _)⟩
 rintro e f t4 (⟨rfl,dj,q1,q2,hS⟩|⟨rfl,rst,d4,rfl,hP4,hS4⟩)
 ·obtain ⟨f1,f2⟩:=hF _ q1 q2;simp only[go_sem];exact ⟨_,f1,f2,hS⟩
 have hs4:d4.size=d.size:=by rw[hP4.1]; exact hsz
 have hB4:=hB.perm (by omega) hP4;have hF4:∀ R,Go.Sort.PermIn a' b' d4 R→Go.Sort.SortedIn (ltOf cf) a' b' R→Go.Sort.PermIn a b d R∧Go.Sort.SortedIn (ltOf cf) a b R:=fun R h1 h2=>hF R (Go.Sort.permIn_trans _ _ _ a' b' hP4 h1) h2
 have hid4:id<t4.next:=Nat.lt_of_lt_of_le hid hS4.next;clear hP3 hS3 hs3 hP4 hF hB;simp only[go_sem]
 -- many that are the same
 have z1:(0:Int)≤(pv:Int):=by omega
 have z2:(pv:Int)<d.size:=by omega
 have xp:=ah5 emb tl (d:=d4) (k:=pv) (by omega);refine aa9 (ay9 (Q:=fun e f s=>(e=.exit 1∧∃ (mid:Nat) (dj:Array α),f=[(0,.slice id 0 d.size 1),(1,.int .i64 mid),(2,.int .i64 b'),(3,.int .i64 lim2),(4,.func (.func g) first cap),(10,.bool wb),(11,.bool wp)]∧a'<mid∧mid≤b'∧dj.size=d.size∧Go.Sort.Below (ltOf cf) mid b' dj∧SKp emb tl id dj σ s∧∀ R,Go.Sort.PermIn mid b' dj R→Go.Sort.SortedIn (ltOf cf) mid b' R→Go.Sort.PermIn a b d R∧Go.Sort.SortedIn (ltOf cf) a b R)∨(e=.normal∧∃ (rst:Frm),f=(0,.slice id 0 d.size 1)::(1,.int .i64 a')::(2,.int .i64 b')::(3,.int .i64 lim2)::(4,.func (.func g) first cap)::(10,.bool wb)::(11,.bool wp)::(12,.int .i64 (b'-a':Nat))::(13,.int .i64 pv)::rst∧SKp emb tl id d4 σ s)) (ab2 ?_) ?_)
 ·by_cases ha0:0<a'
  ·have y0:(0:Int)<(a':Int):=by omega
   have y1:(0:Int)≤((a'-1:Nat):Int):=by omega
   have y2:((a'-1:Nat):Int)<d.size:=by omega
   have w1:=be9 (a:=a') (by omega) (by omega);have xa:=ah5 emb tl (d:=d4) (k:=a'-1) (by omega);have hc:=hC.pc d4[a'-1]! d4[pv]!;simp only[go_sem,y0,y1,y2,z1,z2,w1,hS4.row,xa,xp,Nat.mul_one];refine al9 hC.ok hc ?_;by_cases hcf:cf d4[a'-1]! d4[pv]! < 0
   ·simp only[go_sem,hcf]
    first|exact .inr ⟨rfl,_,rfl,hS4.up emb tl rfl (Nat.le_add_right _ _)⟩|exact .inr ⟨trivial,_,rfl,hS4.up emb tl rfl (Nat.le_add_right _ _)⟩|exact .inr ⟨_,rfl,hS4.up emb tl rfl (Nat.le_add_right _ _)⟩|exact ⟨_,rfl,hS4.up emb tl rfl (Nat.le_add_right _ _)⟩
   ·obtain ⟨mid,d5,hx⟩:∃ mid d5,Go.Sort.partitionEqual (ltOf cf) d4 a' b' pv=(mid,d5):=⟨_,_,rfl⟩;have hpe:=fun U (h:SKp emb tl id d4 σ U)=>gq4 emb tl hC (σ:=U) d4 a' b' pv hp1 hp2 (by omega) (by omega) h.row
    rw[hs4,hx] at hpe;have hpe2:=fun U (h:SKp emb tl id d4 σ U)=>(hpe U h).mono (Q':=fun v s=>v=.int .i64 mid∧U.next≤s.next∧SKp emb tl id d5 σ s) fun v s ⟨e,h1⟩=>⟨e,h1.next,h.trans emb tl h1.kp⟩
    simp only[go_sem,hcf];refine ad1 fok156 (hpe2 _ (hS4.up emb tl rfl (Nat.le_add_right _ _))) ?_;rintro v s ⟨rfl,h1n,h1⟩;refine ⟨h1n,?_⟩;obtain ⟨r1,r2,r3,r4,r5⟩:=Go.Sort.round_eq hO (Go.Sort.partitionEqual_holds (ltOf cf)) ha0 hp1 hp2 (by omega) hB4 (as1 hcf) hx;simp only[go_sem]
    first|exact .inl ⟨rfl,mid,d5,rfl,r1,r2,r3.trans hs4,r4,h1.up emb tl rfl (Nat.le_refl _),fun R k1 k2=>hF4 R (r5 R k1 k2).1 (r5 R k1 k2).2⟩|exact .inl ⟨trivial,mid,d5,rfl,r1,r2,r3.trans hs4,r4,h1.up emb tl rfl (Nat.le_refl _),fun R k1 k2=>hF4 R (r5 R k1 k2).1 (r5 R k1 k2).2⟩|exact .inl ⟨mid,d5,rfl,r1,r2,r3.trans hs4,r4,h1.up emb tl rfl (Nat.le_refl _),fun R k1 k2=>hF4 R (r5 R k1 k2).1 (r5 R k1 k2).2⟩
  ·have y0:¬ (0:Int)<(a':Int):=by omega
   simp only[go_sem,y0]
   first|exact .inr ⟨rfl,_,rfl,hS4.up emb tl rfl (Nat.le_add_right _ _)⟩|exact .inr ⟨trivial,_,rfl,hS4.up emb tl rfl (Nat.le_add_right _ _)⟩|exact .inr ⟨_,rfl,hS4.up emb tl rfl (Nat.le_add_right _ _)⟩|exact ⟨_,rfl,hS4.up emb tl rfl (Nat.le_add_right _ _)⟩
 rintro e f t5 (⟨rfl,mid,d5,rfl,m1,m2,m3,m4,m5,m6⟩|⟨rfl,rst,rfl,hS5⟩)
 ·simp only[go_sem];exact ⟨b'-mid,by omega,mid,b',lim2,wb,wp,d5,rfl,rfl,by omega,m2,hbb,hl2,m3,m4,m5,m6⟩
 have hid5:id<t5.next:=Nat.lt_of_lt_of_le hid hS5.next;clear xp z1 z2 hid4 hS4;simp only[go_sem]
 -- parted
 have hpt:=ij9 emb tl hC (σ:=t5) d4 a' b' pv hp1 hp2 (by omega) (by omega) hS5.row;obtain ⟨mid,ap0,d6,hx⟩:∃ mid ap0 d6,Go.Sort.partition (ltOf cf) d4 a' b' pv=(mid,ap0,d6):=⟨_,_,_,rfl⟩;rw[hs4,hx] at hpt;refine aa9 (ab2 ?_);simp only[go_sem];refine ad1 fok157 hpt ?_;rintro v t6 ⟨⟨ap,rfl⟩,h6⟩;refine ⟨h6.next,?_⟩;obtain ⟨r1,r2,r3,r4,r5,r6,r7⟩:=Go.Sort.round_part hO (Go.Sort.partition_holds (ltOf cf)) hp1 hp2 (show b'≤d4.size by omega) hB4 hx;have hS6:=hS5.trans emb tl h6.kp;have hid6:id<t6.next:=Nat.lt_of_lt_of_le hid hS6.next;clear h6 hS5;have hs6:d6.size=d.size:=r3.trans hs4;have w1:=ff1 (a:=mid) (b:=a') r1 (by omega);have w2:=ff1 (a:=b') (b:=mid) (by omega) (by omega);have n8:¬ ((8:Int)=0):=by decide
 have w3:IntKind.i64.wrap (((b'-a':Nat):Int).tdiv 8)=(((b'-a')/8:Nat):Int):=by
  have:((b'-a':Nat):Int).tdiv 8=(((b'-a')/8:Nat):Int):=by rw[Int.tdiv_eq_ediv_of_nonneg (by omega)]; omega
  rw[this,wrap64 (by omega) (by omega)]
 have w4:=ad5 (i:=mid) (by omega);simp only[go_sem];refine aa9 (ab2 ?_);simp only[go_sem];refine aa9 (ab2 ?_);simp only[go_sem,w1,w2];refine aa9 (ab2 ?_);simp only[go_sem,n8,w3];refine aa9 (ab2 ?_);simp only[go_sem];by_cases hlr:mid-a'<b'-mid
 ·have c3:((mid-a':Nat):Int)<((b'-mid:Nat):Int):=by omega
  have hih:=fun U (h:SKp emb tl id d6 σ U)=>ih a' mid lim2 d6 U (by omega) r1 (by omega) (by omega) (by omega) r4 (Nat.lt_of_lt_of_le hid h.next) h.row
  rw[hs6] at hih;refine ab2 ?_;simp only[go_sem,c3];refine ad1 fok71 (hih _ (hS6.up emb tl rfl (Nat.le_refl _))) ?_;rintro v t7 ⟨rfl,d7,k1,k2,h7⟩;refine ⟨h7.next,?_⟩;obtain ⟨g1,g2⟩:=r6 d7 k1 k2;have hS7:=(hS6.up emb tl (v:=t6) rfl (Nat.le_refl _)).trans emb tl h7;simp only[go_sem,w4];exact ⟨b'-(mid+1),by omega,mid+1,b',lim2,_,ap,d7,rfl,rfl,by omega,by omega,hbb,hl2,by rw[k1.1]; exact hs6,g1,hS7.up emb tl rfl (Nat.le_refl _),fun R h1 h2=>hF4 R (g2 R h1 h2).1 (g2 R h1 h2).2⟩
 ·have c3:¬ ((mid-a':Nat):Int)<((b'-mid:Nat):Int):=by omega
  have hih:=fun U (h:SKp emb tl id d6 σ U)=>ih (mid+1) b' lim2 d6 U (by omega) (by omega) (by omega) (by omega) (by omega) r5 (Nat.lt_of_lt_of_le hid h.next) h.row
  rw[hs6] at hih;refine ab2 ?_;simp only[go_sem,c3,w4];refine ad1 fok71 (hih _ (hS6.up emb tl rfl (Nat.le_refl _))) ?_;rintro v t7 ⟨rfl,d7,k1,k2,h7⟩;refine ⟨h7.next,?_⟩;obtain ⟨g1,g2⟩:=r7 d7 k1 k2;have hS7:=(hS6.up emb tl (v:=t6) rfl (Nat.le_refl _)).trans emb tl h7;simp only[go_sem];exact ⟨mid-a',by omega,a',mid,lim2,_,ap,d7,rfl,rfl,by omega,by omega,by omega,hl2,by rw[k1.1]; exact hs6,g1,hS7.up emb tl rfl (Nat.le_refl _),fun R h1 h2=>hF4 R (g2 R h1 h2).1 (g2 R h1 h2).2⟩
theorem fe6 (hC:cf4 emb cf g first cap)(hO:Go.Sort.SWO (ltOf cf)){σ:Store}(d:Array α)(hz:d.size<256)(hid:id<σ.next)(ho:σ.obj id=some (.row (az7 emb tl d))) :
  C Tryz.prog EE 31 [.slice id 0 d.size 1,.func (.func g) first cap] σ fun v s=>v=.tuple []∧∃ d',Go.Sort.PermIn 0 d.size d d'∧Go.Sort.SortedIn (ltOf cf) 0 d.size d'∧SKp emb tl id d' σ s:=by
 refine C_f fok31 (nZ rfl) ?_
 have w0:IntKind.u64.wrap (d.size:Int)=d.size:=by
  show (d.size:Int)%18446744073709551616=d.size;omega
 simp only[ic31,go_sem,w0];refine aa5 fok72 (fy8 d.size hz) ?_;simp only[go_sem];have h8:=(bv7 d.size hz).1;refine ad1 fok71 (iu6 emb tl hC hO (d.size+1) 0 d.size _ d σ (by omega) (Nat.zero_le _) (Nat.le_refl _) hz (by omega) (.inl rfl) hid ho) ?_;rintro v s ⟨rfl,hs⟩;obtain ⟨d',q1,q2,q3⟩:=hs;refine ⟨q3.next,?_⟩;simp only[go_sem];exact ⟨d',q1,q2,q3⟩
end
end Go.Id.Tryz
set_option linter.all false
namespace Go.Id.Tryz
open Go Go.Id Go.Proofs Go.Shelf Go.Id.Md
set_option maxRecDepth 100000
set_option maxHeartbeats 1000000
def gt9:IC :=
 (.seq
 (.reg 0 [oK 4 (.alloc [.ac9,.ac9])] [0,1,4])
 (.seq
 (.reg 1 [oK 17 .az2,oK 18 .az2,oQ 19 (.bld [.ac9,.ac9] [⟨0,⟨1,(.t 17)⟩⟩,⟨1,⟨1,(.t 18)⟩⟩]),oK 5 (.alloc [.ac9,.ac9]),oN (.store 2 (.t 5) (.t 19))] [0,1,4,5])
 (.seq
 (.seq
 (.reg 2 [oM 20 (.t 1),oQ 21 (.len 0 (.t 20)),oM 22 (cI 0)] [0,1,4,5,20,21,22])
 (.block 0
 (.loop
 (.seq
 (.reg 3 [oQ 23 (.bin .lss (.t 22) (.t 21))] [0,1,4,5,20,21,22,23])
 (.seq
 (.cond (.t 23)
 .skip
 (.exit 0))
 (.seq
 (.block 1
 (.seq
 (.reg 4 [oQ 24 (.ab5 1 (.t 20) (.t 22)),oQ 25 (.load none (.t 24)),oM 7 (.t 25)] [0,1,4,5,7,20,21,22])
 (.seq
 (.reg 5 [oK 8 (.alloc [(.int .u64 0),(.int .u64 0),(.int .u64 0),(.int .u64 0)])] [0,1,4,5,7,8,20,21,22])
 (.seq
 (.seq
 (.reg 6 [oM 26 (.t 1),oQ 27 (.len 0 (.t 26)),oM 28 (cI 0)] [0,1,4,5,7,8,20,21,22,26,27,28])
 (.block 2
 (.loop
 (.seq
 (.reg 7 [oQ 29 (.bin .lss (.t 28) (.t 27))] [0,1,4,5,7,8,20,21,22,26,27,28,29])
 (.seq
 (.cond (.t 29)
 .skip
 (.exit 2))
 (.seq
 (.block 3
 (.seq
 (.reg 8 [oQ 30 (.ab5 1 (.t 26) (.t 28)),oQ 31 (.load none (.t 30)),oM 10 (.t 31)] [0,1,4,5,7,8,10,20,21,22,26,27,28])
 (.seq
 (.reg 9 [oM 32 (.t 0),oM 33 (.t 7),oM 34 (.t 10),oK 35 (.call 10 [(.t 32),(.t 33),(.t 34)])] [0,1,4,5,7,8,10,20,21,22,26,27,28,35])
 (.cond (.t 35)
 (.reg 10 [oQ 36 (.load (some 4) (.t 8)),oM 37 (.t 10),oK 38 (.call 69 [(.t 36),(.t 37)]),oN (.store 4 (.t 8) (.t 38))] [0,1,4,5,7,8,20,21,22,26,27,28])
 .skip))))
 (.reg 11 [oQ 39 (.bin .add (.t 28) (cI 1)),oM 28 (.t 39)] [0,1,4,5,7,8,20,21,22,26,27,28])))))))
 (.eo7 12 [(0,oQ 40 (.ab3 0 (.t 5)),0),(1,oQ 41 (.load none (.t 40)),0),(2,oM 42 (.t 7),0),(3,oQ 43 (.ab3 1 (.t 5)),0),(4,oQ 44 (.load none (.t 43)),0),(5,oM 45 (.t 7),0),(6,oQ 46 (.load (some 4) (.t 8)),0),(7,oQ 47 (.load (some 4) (.t 8)),0),(8,oN (.bx7 1 (.t 41) (.t 42) (.t 46)),144),(9,oN (.bx7 1 (.t 44) (.t 45) (.t 47)),0)] [0,1,4,5,20,21,22])))))
 (.reg 13 [oQ 48 (.bin .add (.t 22) (cI 1)),oM 22 (.t 48)] [0,1,4,5,20,21,22])))))))
 (.seq
 (.seq
 (.reg 14 [oM 11 (.c (.bool true))] [1,4,5,11])
 (.block 4
 (.loop
 (.seq
 (.seq
 (.reg 15 [oM 49 (.t 11)] [1,4,5,49])
 (.cond (.t 49)
 .skip
 (.exit 4)))
 (.block 5
 (.seq
 (.reg 16 [oM 11 (.c (.bool false))] [1,4,5,11])
 (.seq
 (.reg 17 [oM 50 (.t 1),oQ 51 (.len 0 (.t 50)),oM 52 (cI 0)] [1,4,5,11,50,51,52])
 (.block 6
 (.loop
 (.seq
 (.reg 18 [oQ 53 (.bin .lss (.t 52) (.t 51))] [1,4,5,11,50,51,52,53])
 (.seq
 (.cond (.t 53)
 .skip
 (.exit 6))
 (.seq
 (.block 7
 (.seq
 (.reg 19 [oQ 54 (.ab5 1 (.t 50) (.t 52)),oQ 55 (.load none (.t 54)),oM 13 (.t 55)] [1,4,5,11,13,50,51,52])
 (.seq
 (.reg 20 [oQ 56 (.ab3 1 (.t 5)),oQ 57 (.load none (.t 56)),oM 58 (.t 13),oQ 59 (.lkp 1 (.agg [(.int .u64 0),(.int .u64 0),(.int .u64 0),(.int .u64 0)]) false (.t 57) (.t 58)),oK 14 (.alloc [(.int .u64 0),(.int .u64 0),(.int .u64 0),(.int .u64 0)]),oN (.store 4 (.t 14) (.t 59))] [1,4,5,11,13,14,50,51,52])
 (.seq
 (.seq
 (.reg 21 [oM 60 (.t 1),oQ 61 (.len 0 (.t 60)),oM 62 (cI 0)] [1,4,5,11,13,14,50,51,52,60,61,62])
 (.block 8
 (.loop
 (.seq
 (.reg 22 [oQ 63 (.bin .lss (.t 62) (.t 61))] [1,4,5,11,13,14,50,51,52,60,61,62,63])
 (.seq
 (.cond (.t 63)
 .skip
 (.exit 8))
 (.seq
 (.block 9
 (.seq
 (.reg 23 [oQ 64 (.ab5 1 (.t 60) (.t 62)),oQ 65 (.load none (.t 64)),oM 16 (.t 65)] [1,4,5,11,13,14,16,50,51,52,60,61,62])
 (.seq
 (.reg 24 [oQ 66 (.load (some 4) (.t 14)),oM 67 (.t 16),oK 68 (.call 35 [(.t 66),(.t 67)])] [1,4,5,11,13,14,16,50,51,52,60,61,62,68])
 (.cond (.t 68)
 (.reg 25 [oQ 69 (.load (some 4) (.t 14)),oQ 70 (.ab3 1 (.t 5)),oQ 71 (.load none (.t 70)),oM 72 (.t 16),oQ 73 (.lkp 1 (.agg [(.int .u64 0),(.int .u64 0),(.int .u64 0),(.int .u64 0)]) false (.t 71) (.t 72)),oK 74 (.call 70 [(.t 69),(.t 73)]),oN (.store 4 (.t 14) (.t 74))] [1,4,5,11,13,14,50,51,52,60,61,62])
 .skip))))
 (.reg 26 [oQ 75 (.bin .add (.t 62) (cI 1)),oM 62 (.t 75)] [1,4,5,11,13,14,50,51,52,60,61,62])))))))
 (.seq
 (.reg 27 [oQ 76 (.load (some 4) (.t 14)),oQ 77 (.ab3 1 (.t 5)),oQ 78 (.load none (.t 77)),oM 79 (.t 13),oQ 80 (.lkp 1 (.agg [(.int .u64 0),(.int .u64 0),(.int .u64 0),(.int .u64 0)]) false (.t 78) (.t 79)),oQ 81 (.eqs [1,1,1,1] true true (.t 76) (.t 80))] [1,4,5,11,13,14,50,51,52,81])
 (.cond (.t 81)
 (.seq
 (.reg 28 [oQ 82 (.ab3 1 (.t 5)),oQ 83 (.load none (.t 82)),oM 84 (.t 13),oQ 85 (.load (some 4) (.t 14)),oN (.bx7 1 (.t 83) (.t 84) (.t 85))] [1,4,5,50,51,52])
 (.reg 29 [oM 11 (.c (.bool true))] [1,4,5,11,50,51,52]))
 .skip))))))
 (.reg 30 [oQ 86 (.bin .add (.t 52) (cI 1)),oM 52 (.t 86)] [1,4,5,11,50,51,52])))))))))))))
 (.seq
 (.reg 31 [oQ 87 (.load (some 2) (.t 5)),oN (.store 2 (.t 4) (.t 87))] [4])
 .ret)))))
theorem hh4:FOK Tryz.prog 30 (88,gt9,[(.cell (some 2) 4)]):=ak2 [2000000] Tryz.func30 (by kernel_rfl) (by kernel_rfl) (by kernel_rfl) (by kernel_rfl)
theorem fr3 (s:Nat):ap5 s=[wdV s 0,wdV s 1,wdV s 2,wdV s 3]:=rfl
theorem set0:([.int .u64 0,.int .u64 0,.int .u64 0,.int .u64 0]:List IV)=ap5 0:=by simp[ap5,wdV,wd]
structure Maps (s:Store) (l:List Int) (g1 g2:Int→Nat):Prop where
 box:s.obj 3=some (.cells [.map 1,.map 2])
 nil:s.obj 0=some (.cells [.ac9,.ac9])
 m1:s.obj 1=some (.map (at6 g1 l))
 m2:s.obj 2=some (.map (at6 g2 l))
 next:4≤s.next
theorem Maps.keep {s t:Store}{l:List Int}{g1 g2:Int→Nat}(h:Maps s l g1 g2)(hn:s.next≤t.next)(ho:∀ i,i<4→t.obj i=s.obj i):Maps t l g1 g2 :=
 ⟨by rw[ho 3 (by omega)]; exact h.box,by rw[ho 0 (by omega)]; exact h.nil,by rw[ho 1 (by omega)]; exact h.m1,by rw[ho 2 (by omega)]; exact h.m2,Nat.le_trans h.next hn⟩
theorem fr4 (s t:Nat):am6 (ap5 s) 0 (ap5 t)=ap5 t:=rfl
theorem fr5 {s t:Nat}(hs:s<2^256)(ht:t<2^256):allEq [1,1,1,1] (ap5 s) (ap5 t)=some (decide (s=t)):=by
 have h:decide (s=t)=(decide ((wd s 0:Int)=wd t 0)&&(decide ((wd s 1:Int)=wd t 1)&&(decide ((wd s 2:Int)=wd t 2)&&decide ((wd s 3:Int)=wd t 3)))):=by
  rw[Bool.eq_iff_iff];simp only[Bool.and_eq_true,decide_eq_true_eq];constructor
  ·intro e; subst e; exact ⟨rfl,rfl,rfl,rfl⟩
  ·rintro ⟨h0,h1,h2,h3⟩;exact gi5 hs ht (by rw[fr3,fr3]; unfold wdV; rw[h0,h1,h2,h3])
 rw[h];simp only[fr3,wdV,fm5,fm4,go_sem,ai2,ik6,Bool.and_true]
theorem fr6 {g:Int→Nat}{l:List Int}(hd:l.Nodup):ct6 (at6 g l):=by
 refine ⟨?_,.int .i64,fun e he=>?_⟩
 ·unfold at6;rw[List.map_map];exact List.Pairwise.map _ (fun a b hab e=>hab (by cases e; rfl)) hd
 ·obtain ⟨n,_,rfl⟩:=List.mem_map.1 he;rfl
theorem ei6 {s:Store}{S:Nat→Prop}{id:Nat}{g:Int→Nat}{l:List Int}(hd:l.Nodup)(hS:¬ S id)(ho:s.obj id=some (.map (at6 g l))):Frz s S (.map id) (.al2 (at6 g l)):=by
 have hat:∀ i,i<(at6 g l).length→∃ n:Int,(at6 g l).getD i (.undef,.undef)=(.int .i64 n,.agg (ap5 (g n))):=fun i hi=>by
  have hi':i<l.length:=by simpa [at6] using hi
  exact ⟨l[i],by simp[at6,List.getD_eq_getElem?_getD,hi']⟩
 refine .map id _ _ _ hS ho rfl (List.Perm.refl _) (fr6 hd) (fun i hi=>?_) fun i hi=>?_
 ·obtain ⟨n,e⟩:=hat i hi; rw[e]; exact .keep _ (.int _ _)
 ·obtain ⟨n,e⟩:=hat i hi; rw[e]; exact .keep _ (.agg _ fun c hc=>(bq5 _ c hc).weak fun i h=>absurd h (Nat.not_lt_zero _))
theorem fb5 (g:Int→Nat)(l:List Int)(m:Int)(s:Nat):al8 g (l++[m]) s=if (al8 g l s).testBit m.toNat then al8 g l s ||| g m else al8 g l s:=by
 unfold al8; rw[List.foldl_append]; rfl
theorem fr7 (p:Pool) (hp:av1 p) (l:List Int) (hd:l.Nodup) (hl:l.length<2^30) (hpos:∀ n∈l,0≤n∧n<256) :
  PC Tryz.prog EE 30 [p.v,.aa3 (l.map Md.ag9)] (.agg [.al2 (at6 (aq4 (ac8 p) l) l),.al2 (at6 (cj6 (ac8 p) l) l)]):=by
 refine hb8 hE hh4 (nZ rfl) (be7 (au7 p) (bn2 _)) ?_;simp only[gt9];refine aa9 (ab2 ?_);simp only[go_sem];refine aa9 (ab2 ?_);simp only[go_sem];refine aa9 (aa9 (ab2 ?_));simp only[go_sem];generalize hT:Store.mk _ _=T
 have hM0:Maps T ([]:List Int) (aq4 (ac8 p) l) (aq4 (ac8 p) l):=by
  rw[← hT];refine ⟨?_,?_,?_,?_,?_⟩
  ·simp only[aa2,if_true]
  ·simp only[aa2,reduceCtorEq,Int.reduceLT,Int.reduceLE,Int.reduceToNat,Int.reduceAdd,Nat.reduceEqDiff,Nat.reduceAdd,Nat.reduceMul,Nat.reduceLT,Nat.reduceLeDiff,decide_true,decide_false,↓reduceIte]
  ·simp only[aa2,reduceCtorEq,Int.reduceLT,Int.reduceLE,Int.reduceToNat,Int.reduceAdd,Nat.reduceEqDiff,Nat.reduceAdd,Nat.reduceMul,Nat.reduceLT,Nat.reduceLeDiff,decide_true,decide_false,↓reduceIte]; rfl
  ·simp only[aa2,reduceCtorEq,Int.reduceLT,Int.reduceLE,Int.reduceToNat,Int.reduceAdd,Nat.reduceEqDiff,Nat.reduceAdd,Nat.reduceMul,Nat.reduceLT,Nat.reduceLeDiff,decide_true,decide_false,↓reduceIte]; rfl
  ·decide
 clear hT;obtain ⟨g1,hg1⟩:∃ g1,g1=aq4 (ac8 p) l:=⟨_,rfl⟩;rw[← hg1] at hM0;refine ae2 (ag7 (fun e f s=>e=.exit 0∧(∃ rst:Frm,f=(0,p.v)::(1,.aa3 (l.map Md.ag9))::(4,.ptr 0 0)::(5,.ptr 3 0)::rst)∧Maps s l g1 g1) (as2 (fun k fr t=>fr=[(0,p.v),(1,.aa3 (l.map Md.ag9)),(4,.ptr 0 0),(5,.ptr 3 0),(20,.aa3 (l.map Md.ag9)),(21,.int .i64 l.length),(22,.int .i64 (k:Int))]∧Maps t (l.take k) g1 g1) l.length ⟨rfl,hM0⟩ ?_) ?_)
 ·rintro k fr t hk ⟨rfl,hM⟩;refine aa9 (ab2 ?_);by_cases hlt:k<l.length
  ·have c1:(k:Int)<l.length:=by omega
   have c2:(0:Int)≤(k:Int):=by omega
   have hgk:(l.map Md.ag9).getD k []=Md.ag9 l[k]:=by simp[List.getD_eq_getElem?_getD,hlt]
   have w1:=ad5 (i:=k) (by omega);simp only[go_sem,c1];refine aa9 (ab2 ?_);simp only[go_sem];refine aa9 (ae2 (aa9 (ab2 ?_)));simp only[go_sem,c1,c2,hgk,Md.ag9];refine aa9 (ab2 ?_);simp only[go_sem];refine aa9 (aa9 (ab2 ?_));simp only[go_sem];have hnx:=hM.next;obtain ⟨b,hb⟩:∃ b,b=t.next:=⟨_,rfl⟩;rw[← hb];generalize hU:Store.mk (b+1) _=U;have hUn:U.next=b+1:=by rw[← hU]
   have hUb:U.obj b=some (.cells (ap5 (bt7 (ac8 p) l[k] (l.take 0) 0))):=by rw[← hU,List.take_zero]; simp only[aa2,if_true]; rw[set0]; rfl
   have hMU:Maps U (l.take k) g1 g1:=hM.keep (by omega) fun i hi=>by
    have e:¬ i=b:=by omega
    rw[← hU]; simp only[aa2,e,if_false]
   clear hU;refine ae2 (ag7 (fun e f s=>e=.exit 2∧(∃ rst:Frm,f=(0,p.v)::(1,.aa3 (l.map Md.ag9))::(4,.ptr 0 0)::(5,.ptr 3 0)::(7,.int .i64 l[k])::(8,.ptr b 0)::(20,.aa3 (l.map Md.ag9))::(21,.int .i64 l.length)::(22,.int .i64 (k:Int))::rst)∧Maps s (l.take k) g1 g1∧b<s.next∧s.obj b=some (.cells (ap5 (bt7 (ac8 p) l[k] l 0)))) (ab7 noT (fun j fr u=>fr=[(0,p.v),(1,.aa3 (l.map Md.ag9)),(4,.ptr 0 0),(5,.ptr 3 0),(7,.int .i64 l[k]),(8,.ptr b 0),(20,.aa3 (l.map Md.ag9)),(21,.int .i64 l.length),(22,.int .i64 (k:Int)),(26,.aa3 (l.map Md.ag9)),(27,.int .i64 l.length),(28,.int .i64 (j:Int))]∧Maps u (l.take k) g1 g1∧b<u.next∧u.obj b=some (.cells (ap5 (bt7 (ac8 p) l[k] (l.take j) 0)))) l.length ⟨rfl,hMU,by omega,hUb⟩ ?_) ?_)
   ·clear hMU hUb hUn;rintro j fr u hj ⟨rfl,hMu,hbu,hub⟩;by_cases hjl:j<l.length
    ·have d1:(j:Int)<l.length:=by omega
     have d2:(0:Int)≤(j:Int):=by omega
     have hgj:(l.map Md.ag9).getD j []=Md.ag9 l[j]:=by simp[List.getD_eq_getElem?_getD,hjl]
     have htj:l.take (j+1)=l.take j++[l[j]]:=by rw[List.take_add_one,List.getElem?_eq_getElem hjl]; rfl
     have w2:=ad5 (i:=j) (by omega);have hnd:=bc3 p hp l[k] l[j];have hpj:=hpos l[j] (List.getElem_mem hjl);obtain ⟨m,hm⟩:∃ m:Nat,l[j]=(m:Int):=⟨l[j].toNat,by omega⟩;have hwi:=fd9 (bt7 (ac8 p) l[k] (l.take j) 0) m (by omega);have hF:=ez2 (R:=ac8 p) l[k] (l.take j) l[j] 0;rw[← htj] at hF;rw[hm] at hnd hgj hF;rw[Int.toNat_natCast] at hF
     cases hnn:ac8 p l[k] m with
     | true=>
      rw[hnn] at hnd hF;simp only[if_true] at hF;simp only[go_sem,d1,d2,hgj,Md.ag9]
      first|refine aa5 fok10 (hnd) ?_|refine aa7 (hnd) ?_
      simp only[go_sem,hub,ar4,an3,am2]
      first|refine aa5 fok69 (hwi) ?_|refine aa7 (hwi) ?_
      simp only[go_sem,hub,ar4,an3,am2,w2,fr4]
      exact ⟨hjl,hMu.keep (Nat.le_refl _) fun i hi=>by
       have e:¬ i=b:=by omega
       simp only[aa2,e,if_false],hbu,by rw[hF]⟩
     | false=>
      rw[hnn] at hnd hF;simp only[Bool.false_eq_true,if_false] at hF;simp only[go_sem,d1,d2,hgj,Md.ag9]
      first|refine aa5 fok10 (hnd) ?_|refine aa7 (hnd) ?_
      simp only[go_sem,w2];exact ⟨hjl,hMu,hbu,by rw[hF]; exact hub⟩
    ·have d1:¬ (j:Int)<l.length:=by omega
     rw[List.take_of_length_le (by omega)] at hub;simp only[go_sem,d1];exact ⟨⟨_,rfl⟩,hMu,hbu,hub⟩
   rintro e f u ⟨rfl,⟨rst,rfl⟩,hMu,hbu,hub⟩;have hgk1:bt7 (ac8 p) l[k] l 0=g1 l[k]:=by rw[hg1]; rfl
   have hnew:l[k] ∉ l.take k:=fun h=>by
    obtain ⟨j,hj,e⟩:=List.mem_iff_getElem.1 h;rw[List.getElem_take] at e;rw[List.length_take] at hj;have:=List.pairwise_iff_getElem.1 hd j k (by omega) hlt (by omega);exact this e
   rw[hgk1] at hub;have hup:=hf6 g1 l[k] (.agg (ap5 (g1 l[k]))) (l.take k) hnew
   have htk:at6 g1 (l.take k)++[(.int .i64 l[k],.agg (ap5 (g1 l[k])))]=at6 g1 (l.take (k+1)):=by
    rw[List.take_add_one,List.getElem?_eq_getElem hlt]; unfold at6; rw[List.map_append]; rfl
   rw[htk] at hup;have tb1:Nat.testBit 144 1=false:=by decide
   have tb4:Nat.testBit 144 4=true:=by decide
   have tb6:Nat.testBit 144 6=false:=by decide
   have tb7:Nat.testBit 144 7=true:=by decide
   have hbx:=hMu.box;have h1:=hMu.m1;have h2:=hMu.m2;have m1:∀ (τ:Store) (v:IV) (es:List (IV×IV)),τ.obj 1=some (.map (at6 g1 (l.take k)))→ak4 τ 1 (.map 1) (.int .i64 l[k]) (.agg (ap5 (g1 l[k])))=some (τ.put 1 (.map (at6 g1 (l.take (k+1))))):=fun τ _ _ h=>by simp only[ak4,h,hup,Option.map_some]
   have m2:∀ (τ:Store) (v:IV) (es:List (IV×IV)),τ.obj 2=some (.map (at6 g1 (l.take k)))→ak4 τ 1 (.map 2) (.int .i64 l[k]) (.agg (ap5 (g1 l[k])))=some (τ.put 2 (.map (at6 g1 (l.take (k+1))))):=fun τ _ _ h=>by simp only[ak4,h,hup,Option.map_some]
   refine ge5 ?_;simp only[go_sem,hbx,hub,h1,h2,ar4,an3,am2,ak4,hup];have e1:¬ b=1:=by have:=hM.next; omega
   have e31:¬ (3=1):=by decide
   simp only[hw6 tb7,hw5 tb6,hw6 tb4,hw5 tb1,go_sem,hbx,hub,e1,e31,ar4,an3,am2];refine ab2 ?_;simp only[go_sem,w1];refine ⟨hlt,?_⟩;refine ⟨?_,?_,?_,?_,?_⟩
   ·simp only[aa2,reduceCtorEq,Int.reduceLT,Int.reduceLE,Int.reduceToNat,Int.reduceAdd,Nat.reduceEqDiff,Nat.reduceAdd,Nat.reduceMul,Nat.reduceLT,Nat.reduceLeDiff,decide_true,decide_false,↓reduceIte]; exact hbx
   ·simp only[aa2,reduceCtorEq,Int.reduceLT,Int.reduceLE,Int.reduceToNat,Int.reduceAdd,Nat.reduceEqDiff,Nat.reduceAdd,Nat.reduceMul,Nat.reduceLT,Nat.reduceLeDiff,decide_true,decide_false,↓reduceIte]; exact hMu.nil
   ·simp only[aa2,reduceCtorEq,Int.reduceLT,Int.reduceLE,Int.reduceToNat,Int.reduceAdd,Nat.reduceEqDiff,Nat.reduceAdd,Nat.reduceMul,Nat.reduceLT,Nat.reduceLeDiff,decide_true,decide_false,↓reduceIte]
   ·simp only[aa2,if_true]
   ·have:=hMu.next; simp only[aa8]; omega
  ·have c1:¬ (k:Int)<l.length:=by omega
   rw[List.take_of_length_le (by omega)] at hM;simp only[go_sem,c1];refine aa9 (ab2 ?_);simp only[go_sem];exact ⟨⟨_,rfl⟩,hM⟩
 rintro e f t ⟨rfl,⟨rst,rfl⟩,hM⟩;simp only[go_sem];have hR0:=gt6 (R:=ac8 p) (L:=l) hpos;rw[← hg1] at hR0;have hsm:∀ (g:Int→Nat) (i:Nat) (ag:Bool),ez4 (ac8 p) l g1 i g ag→∀ n∈l,g n<2^256:=fun g i ag h n hn=>h.reach.small (h.reach.way n hn)
 refine aa9 (aa9 (ab2 ?_));simp only[go_sem];refine ae2 (ag7 (fun e f s=>e=.exit 4∧(∃ rst:Frm,f=(1,.aa3 (l.map Md.ag9))::(4,.ptr 0 0)::(5,.ptr 3 0)::rst)∧Maps s l g1 (cj6 (ac8 p) l)) (as2 (fun i fr t=>∃ (g:Int→Nat) (again:Bool),(∃ rst:Frm,fr=(1,.aa3 (l.map Md.ag9))::(4,.ptr 0 0)::(5,.ptr 3 0)::(11,.bool again)::rst)∧Maps t l g1 g∧ez4 (ac8 p) l g1 i g again) (aw5 l g1 l+1) ⟨g1,true,⟨[],rfl⟩,hM,.init hR0⟩ ?_) ?_)
 ·clear hM;rintro i fr t hi ⟨g,again,⟨rst0,rfl⟩,hM,hOut⟩;refine aa9 (ab2 ?_)
  cases again with
  | false=>
   simp only[go_sem];have hlim:g=cj6 (ac8 p) l:=by rw[hg1] at hOut hi; exact hOut.lim hi
   exact ⟨⟨_,rfl⟩,by rw[← hlim]; exact hM⟩
  | true=>
  simp only[go_sem];have hnb:=hOut.yes rfl;refine ae2 (aa9 (ab2 ?_));simp only[go_sem];refine aa9 (ab2 ?_);simp only[go_sem];refine ae2 (ag7 (fun e f s=>e=.exit 6∧∃ g' again',(∃ rst:Frm,f=(1,.aa3 (l.map Md.ag9))::(4,.ptr 0 0)::(5,.ptr 3 0)::(11,.bool again')::rst)∧Maps s l g1 g'∧ch9 (ac8 p) l g g' l again') (as2 (fun k fr u=>∃ g' again',fr=[(1,.aa3 (l.map Md.ag9)),(4,.ptr 0 0),(5,.ptr 3 0),(11,.bool again'),(50,.aa3 (l.map Md.ag9)),(51,.int .i64 l.length),(52,.int .i64 (k:Int))]∧Maps u l g1 g'∧ch9 (ac8 p) l g g' (l.take k) again') l.length ⟨g,false,rfl,hM,.init hOut.reach⟩ ?_) ?_)
  ·clear hM;rintro k fr u hk ⟨g',again',rfl,hM,hP⟩;refine aa9 (ab2 ?_);by_cases hlt:k<l.length
   ·have c1:(k:Int)<l.length:=by omega
    have c2:(0:Int)≤(k:Int):=by omega
    have hgk:(l.map Md.ag9).getD k []=Md.ag9 l[k]:=by simp[List.getD_eq_getElem?_getD,hlt]
    have w1:=ad5 (i:=k) (by omega);have hkm:=List.getElem_mem hlt;have htk:l.take (k+1)=l.take k++[l[k]]:=by rw[List.take_add_one,List.getElem?_eq_getElem hlt]; rfl
    have hlk:=bm2 g' l[k] l;rw[if_pos hkm] at hlk;have hbx:=hM.box;have h2:=hM.m2;simp only[go_sem,c1];refine aa9 (ab2 ?_);simp only[go_sem];refine aa9 (ae2 (aa9 (ab2 ?_)));simp only[go_sem,c1,c2,hgk,Md.ag9];refine aa9 (ab2 ?_);simp only[go_sem,hbx,cf6,ax4,h2,hlk,Option.getD_some,ar4,an3,am2];have hnx:=hM.next;obtain ⟨b,hb⟩:∃ b,b=u.next:=⟨_,rfl⟩;rw[← hb];generalize hU:Store.put _ b (aj5.cells (ap5 (g' l[k])))=U;have hUn:U.next=b+1:=by rw[← hU]; rfl
    have hUb:U.obj b=some (.cells (ap5 (al8 g' (l.take 0) (g' l[k])))):=by rw[← hU,List.take_zero]; simp only[aa2,if_true]; rfl
    have hMU:Maps U l g1 g':=hM.keep (by omega) fun i hi=>by
     have e:¬ i=b:=by omega
     rw[← hU]; simp only[aa2,e,if_false]
    clear hU;refine aa9 (aa9 (ab2 ?_));simp only[go_sem];refine ae2 (ag7 (fun e f s=>e=.exit 8∧(∃ rst:Frm,f=(1,.aa3 (l.map Md.ag9))::(4,.ptr 0 0)::(5,.ptr 3 0)::(11,.bool again')::(13,.int .i64 l[k])::(14,.ptr b 0)::(50,.aa3 (l.map Md.ag9))::(51,.int .i64 l.length)::(52,.int .i64 (k:Int))::rst)∧Maps s l g1 g'∧b<s.next∧s.obj b=some (.cells (ap5 (al8 g' l (g' l[k]))))) (ab7 noT (fun j fr x=>fr=[(1,.aa3 (l.map Md.ag9)),(4,.ptr 0 0),(5,.ptr 3 0),(11,.bool again'),(13,.int .i64 l[k]),(14,.ptr b 0),(50,.aa3 (l.map Md.ag9)),(51,.int .i64 l.length),(52,.int .i64 (k:Int)),(60,.aa3 (l.map Md.ag9)),(61,.int .i64 l.length),(62,.int .i64 (j:Int))]∧Maps x l g1 g'∧b<x.next∧x.obj b=some (.cells (ap5 (al8 g' (l.take j) (g' l[k]))))) l.length ⟨rfl,hMU,by omega,hUb⟩ ?_) ?_)
    ·clear hMU hUb hUn;rintro j fr x hj ⟨rfl,hMx,hbx',hxb⟩;by_cases hjl:j<l.length
     ·have d1:(j:Int)<l.length:=by omega
      have d2:(0:Int)≤(j:Int):=by omega
      have hgj:(l.map Md.ag9).getD j []=Md.ag9 l[j]:=by simp[List.getD_eq_getElem?_getD,hjl]
      have htj:l.take (j+1)=l.take j++[l[j]]:=by rw[List.take_add_one,List.getElem?_eq_getElem hjl]; rfl
      have w2:=ad5 (i:=j) (by omega);have hpj:=hpos l[j] (List.getElem_mem hjl);obtain ⟨m,hm⟩:∃ m:Nat,l[j]=(m:Int):=⟨l[j].toNat,by omega⟩;have hF:=fb5 g' (l.take j) l[j] (g' l[k]);rw[← htj] at hF;have hlm:=bm2 g' l[j] l;rw[if_pos (List.getElem_mem hjl)] at hlm;rw[hm] at hgj hF hlm;rw[Int.toNat_natCast] at hF;have hh:=bh6 (al8 g' (l.take j) (g' l[k])) m (by omega);have ho:=gp7 (al8 g' (l.take j) (g' l[k])) (g' m);have hbx2:=hMx.box;have h22:=hMx.m2
      cases hbt:(al8 g' (l.take j) (g' l[k])).testBit m with
      | true=>
       rw[hbt] at hh hF;simp only[if_true] at hF;simp only[go_sem,d1,d2,hgj,Md.ag9,hxb,ar4,an3,am2]
       first|refine aa5 fok35 (hh) ?_|refine aa7 (hh) ?_
       simp only[go_sem,hxb,hbx2,cf6,ax4,h22,hlm,Option.getD_some,ar4,an3,am2]
       first|refine aa5 fok70 (ho) ?_|refine aa7 (ho) ?_
       simp only[go_sem,hxb,ar4,an3,am2,w2,fr4]
       exact ⟨hjl,hMx.keep (Nat.le_refl _) fun i hi=>by
        have e:¬ i=b:=by omega
        simp only[aa2,e,if_false],hbx',by rw[hF]⟩
      | false=>
       rw[hbt] at hh hF;simp only[Bool.false_eq_true,if_false] at hF;simp only[go_sem,d1,d2,hgj,Md.ag9,hxb,ar4,an3,am2]
       first|refine aa5 fok35 (hh) ?_|refine aa7 (hh) ?_
       simp only[go_sem,w2];exact ⟨hjl,hMx,hbx',by rw[hF]; exact hxb⟩
     ·have d1:¬ (j:Int)<l.length:=by omega
      rw[List.take_of_length_le (by omega)] at hxb;simp only[go_sem,d1];exact ⟨⟨_,rfl⟩,hMx,hbx',hxb⟩
    rintro e f x ⟨rfl,⟨rst,rfl⟩,hMx,hbx',hxb⟩;have hbx2:=hMx.box;have h22:=hMx.m2;have s1:al8 g' l (g' l[k])<2^256:=hP.reach.small (co7 hP.reach l _ (fun _ h=>h) (hP.reach.way _ hkm));have s2:g' l[k]<2^256:=hP.reach.small (hP.reach.way _ hkm);have heq:=fr5 s1 s2;have hup:=hf7 g' l[k] (al8 g' l (g' l[k])) l hd hkm;simp only[go_sem];refine aa9 (ab2 ?_);by_cases hne:al8 g' l (g' l[k])=g' l[k]
    ·rw[hne] at heq hxb;have heq:allEq [1,1,1,1] (ap5 (g' l[k])) (ap5 (g' l[k]))=some true:=by rw[heq]; simp
     simp only[go_sem,hxb,hbx2,cf6,ax4,h22,hlk,Option.getD_some,ar4,an3,am2,heq,Option.map_some,Bool.not_true];refine ab2 ?_;simp only[go_sem];refine ab2 ?_;simp only[go_sem,w1];exact ⟨hlt,g',again',rfl,hMx,by rw[htk]; exact hP.eq hne⟩
    ·have heq:allEq [1,1,1,1] (ap5 (al8 g' l (g' l[k]))) (ap5 (g' l[k]))=some false:=by rw[heq]; simp[hne]
     simp only[go_sem,hxb,hbx2,cf6,ax4,h22,hlk,Option.getD_some,ar4,an3,am2,heq,Option.map_some,Bool.not_false];refine ab2 ?_;simp only[go_sem,hxb,hbx2,ak4,h22,hup,Option.map_some,ar4,an3,am2];refine ab2 ?_;simp only[go_sem,w1];refine ⟨hlt,cg3 g' l[k] (al8 g' l (g' l[k])),true,rfl,⟨?_,?_,?_,?_,?_⟩,by rw[htk]; exact hP.ne hd hkm hne⟩
     ·simp only[aa2,reduceCtorEq,Int.reduceLT,Int.reduceLE,Int.reduceToNat,Int.reduceAdd,Nat.reduceEqDiff,Nat.reduceAdd,Nat.reduceMul,Nat.reduceLT,Nat.reduceLeDiff,decide_true,decide_false,↓reduceIte]; exact hbx2
     ·simp only[aa2,reduceCtorEq,Int.reduceLT,Int.reduceLE,Int.reduceToNat,Int.reduceAdd,Nat.reduceEqDiff,Nat.reduceAdd,Nat.reduceMul,Nat.reduceLT,Nat.reduceLeDiff,decide_true,decide_false,↓reduceIte]; exact hMx.nil
     ·simp only[aa2,reduceCtorEq,Int.reduceLT,Int.reduceLE,Int.reduceToNat,Int.reduceAdd,Nat.reduceEqDiff,Nat.reduceAdd,Nat.reduceMul,Nat.reduceLT,Nat.reduceLeDiff,decide_true,decide_false,↓reduceIte]; exact hMx.m1
     ·simp only[aa2,if_true]
     ·have:=hMx.next; simp only[aa8]; omega
   ·have c1:¬ (k:Int)<l.length:=by omega
    rw[List.take_of_length_le (by omega)] at hP;simp only[go_sem,c1];refine aa9 (ab2 ?_);simp only[go_sem];exact ⟨g',again',⟨_,rfl⟩,hM,hP⟩
  rintro e f u ⟨rfl,g',again',⟨rst,rfl⟩,hM',hP⟩;simp only[go_sem];exact ⟨by omega,g',again',⟨_,rfl⟩,hM',hOut.next hP⟩
 rintro e f u ⟨rfl,⟨rst,rfl⟩,hM'⟩;simp only[go_sem];have hbx:=hM'.box;have hnl:=hM'.nil;refine aa9 (ab2 ?_);simp only[go_sem,hbx,hnl];refine ab2 ?_;simp only[go_sem];have m1:=hM'.m1;have m2:=hM'.m2;rw[hg1] at m1;exact .ik8 (.cons (ei6 hd (Nat.not_lt_zero _) (by simp only[aa2,reduceCtorEq,Int.reduceLT,Int.reduceLE,Int.reduceToNat,Int.reduceAdd,Nat.reduceEqDiff,Nat.reduceAdd,Nat.reduceMul,Nat.reduceLT,Nat.reduceLeDiff,decide_true,decide_false,↓reduceIte]; exact m1)) (.cons (ei6 hd (Nat.not_lt_zero _) (by simp only[aa2,reduceCtorEq,Int.reduceLT,Int.reduceLE,Int.reduceToNat,Int.reduceAdd,Nat.reduceEqDiff,Nat.reduceAdd,Nat.reduceMul,Nat.reduceLT,Nat.reduceLeDiff,decide_true,decide_false,↓reduceIte]; exact m2)) .nil))
end Go.Id.Tryz
/- Steps in their row: walked. Conditions: packages that may be,and fit; few steps. -/
namespace Go.Id.Md
open Go Go.Id
def bu3 (l:List Step):List (IV×IV):=l.map fun s=>(.int .i64 s.p,.int .u8 s.kind)
theorem dt9 (n:Int):∀ l:List Step,as5 1 (.int .i64 n) (bu3 l)=some ((l.find? fun s=>decide (s.p=n)).map fun s=>.int .u8 s.kind):=by
 intro l
 induction l with
 | nil=>rfl
 | cons a l ih=>
  show (match ai7 1 (.int .i64 n) (.int .i64 a.p) with|some true=>some (some (IV.int .u8 a.kind))|some false=>as5 1 (.int .i64 n) (bu3 l)|none=>none)=_;rw[ce1];by_cases h:n=a.p
  ·rw[decide_eq_true h,List.find?_cons,decide_eq_true h.symm]; rfl
  ·rw[decide_eq_false h,List.find?_cons,decide_eq_false fun e=>h e.symm];exact ih
theorem ei7 (n:Int)(l:List Step):((l.find? fun s=>decide (s.p=n)).map fun s=>IV.int .u8 s.kind).getD (.int .u8 0)=.int .u8 (bn6 l n):=by
 unfold bn6;cases l.find? fun s=>decide (s.p=n)<;>rfl
theorem fr8 (n:Int)(l:List Step):((l.find? fun s=>decide (s.p=n)).map fun s=>IV.int .u8 s.kind).isSome=decide (n∈l.map (·.p)):=by
 rw[Option.isSome_map];refine Bool.eq_iff_iff.2 ?_;rw[List.find?_isSome,decide_eq_true_iff,List.mem_map];exact ⟨fun ⟨s,h1,h2⟩=>⟨s,h1,of_decide_eq_true h2⟩,fun ⟨s,h1,h2⟩=>⟨s,h1,decide_eq_true h2⟩⟩
theorem gl1 (s:Step):∀ l:List Step,s.p ∉ l.map (·.p)→cl7 1 (.int .i64 s.p) (.int .u8 s.kind) (bu3 l)=some (bu3 (l++[s])):=by
 intro l
 induction l with
 | nil=>intro _; rfl
 | cons a l ih=>
  intro h;rw[List.map_cons,List.mem_cons,not_or] at h;have hk:=ce1 s.p a.p;rw[decide_eq_false h.1] at hk;show cl7 1 (.int .i64 s.p) (.int .u8 s.kind) ((.int .i64 a.p,.int .u8 a.kind)::bu3 l)=_;simp only[cl7,hk,ih h.2];rfl
def az3 (N:Nat)(s:Step):Bool:=decide (1≤s.kind)&&decide (s.kind≤8)&&decide (0≤s.p)&&decide (s.p<N)
def okS (N:Nat)(l:List Step):Bool:=decide ((l.map (·.p)).Nodup)&&l.all (az3 N)
theorem gl2 (N:Nat)(l:List Step)(s:Step):okS N (l++[s])=(okS N l&&(!decide (s.p∈l.map (·.p))&&az3 N s)):=by
 unfold okS;rw[List.all_append,List.map_append,Bool.eq_iff_iff];simp only[Bool.and_eq_true,decide_eq_true_eq,Bool.not_eq_true',decide_eq_false_iff_not,List.all_cons,List.all_nil,Bool.and_true,List.map_cons,List.map_nil];rw[List.nodup_append];constructor
 ·rintro ⟨⟨h1,_,h3⟩,h4,h5⟩;exact ⟨⟨h1,h4⟩,fun h=>h3 _ h _ (by simp) rfl,h5⟩
 ·rintro ⟨⟨h1,h4⟩,h3,h5⟩;refine ⟨⟨h1,by simp,fun a ha b hb e=>?_⟩,h4,h5⟩;rw[List.mem_singleton] at hb;exact h3 (by rw[← hb,← e]; exact ha)
theorem hh5 {N:Nat}{l:List Step}{k:Nat}(hk:k<l.length)(h:okS N (l.take k++[l[k]])=false):okS N l=false:=by
 have e:l=(l.take k++[l[k]])++l.drop (k+1):=by
  have:l.take (k+1)=l.take k++[l[k]]:=by rw[List.take_add_one,List.getElem?_eq_getElem hk]; rfl
  rw[← this,List.take_append_drop]
 cases hb:okS N l with
 | false=>rfl
 | true=>
  rw[e] at hb;unfold okS at hb h;rw[List.map_append,List.all_append] at hb;simp only[Bool.and_eq_true,decide_eq_true_eq] at hb;have h1:=(List.nodup_append.1 hb.1).1;rw[decide_eq_true h1,hb.2.1] at h;cases h
theorem fb6 (l:List Step)(s:Step)(k:Int):ab4 (l++[s]) k=ab4 l k++if aj8 s.kind=k then [s.p] else []:=by
 unfold ab4;rw[List.filter_append,List.map_append];congr 1;simp only[List.filter_cons,List.filter_nil];by_cases h:aj8 s.kind=k<;>simp[h]
end Go.Id.Md
namespace Go.Id.Tryz
open Go Go.Id Go.Proofs Go.Shelf Go.Id.Md
set_option maxHeartbeats 1000000
theorem hh6 (k:Int):PC Tryz.prog EE 29 [.int .u8 k] (.int .i64 (aj8 k)):=by
 refine as8 fok29 (nZ rfl) fun σ=>?_
 unfold aj8;have n87:¬ (8:Int)=7:=by decide
 have n67:¬ (6:Int)=7:=by decide
 have n68:¬ (6:Int)=8:=by decide
 by_cases h7:k=7
 ·subst h7;simp only[ic29,go_sem,true_or,and_self]
 by_cases h8:k=8
 ·subst h8;simp only[ic29,go_sem,n87,or_true,and_self]
 by_cases h6:k=6
 ·subst h6;simp only[ic29,go_sem,n67,n68,or_self,and_self]
 have e:(if k=7∨k=8 then (1:Int) else if k=6 then 2 else 0)=0:=by simp[h7,h8,h6]
 rw[e];simp only[ic29,go_sem,h7,h8,h6,and_self]
theorem fb7 (R:Int→Int→Bool)(L:List Int)(hpos:∀ n∈L,0≤n∧n<256)(hd:L.Nodup){n m:Int}(hn:n∈L)(hm:m∈L) :
  PC Tryz.prog EE 34 ([.int .i64 n,.int .i64 m]++[.ac5 [.al2 (at6 (aq4 R L) L),.al2 (at6 (cj6 R L) L)]]) (.bool (at7 R L n m)):=by
 have hb:∀ g:Int→Nat,Bnd 0 (.al2 (at6 g L)):=fun g=>.al2 _ (fun e he=>by obtain ⟨x,_,rfl⟩:=List.mem_map.1 he; exact .int _ _) fun e he=>by obtain ⟨x,_,rfl⟩:=List.mem_map.1 he; exact .agg _ (bq5 _)
 refine ar1 hE fok34 (nZ rfl) (dr5 (.int _ _) (.int _ _) (.ac5 _ (be7 (hb _) (hb _)))) ?_;have l1:=bm2 (aq4 R L) n L;have l2:=bm2 (cj6 R L) m L;rw[if_pos hn] at l1;rw[if_pos hm] at l2;have e1:=fp8 (R:=R) hpos n hm;have e2:=di1 (R:=R) hpos hd hm hn;have pn:=hpos n hn;have pm:=hpos m hm;obtain ⟨a,ha⟩:∃ a:Nat,n=(a:Int):=⟨n.toNat,by omega⟩;obtain ⟨b,hb⟩:∃ b:Nat,m=(b:Int):=⟨m.toNat,by omega⟩;have h1:=bh6 (aq4 R L n) b (by omega);have h2:=bh6 (cj6 R L m) a (by omega);have t1:(aq4 R L n).testBit b=R n m:=by rw[← e1,hb,Int.toNat_natCast]
 have t2:(cj6 R L m).testBit a=eh5 R L m n:=by rw[← e2,ha,Int.toNat_natCast]
 rw[t1,← hb] at h1;rw[t2,← ha] at h2
 have hw:at7 R L n m=(R n m&&!eh5 R L m n):=by
  unfold at7
  first|rfl|rw[bt1]
 rw[hw]
 cases hR:R n m with
 | true=>
  rw[hR] at h1;simp only[ic34,go_sem,List.cons_append,List.nil_append,cf6,ax4,l1,l2,Option.getD_some]
  first|refine aa5 fok35 (h1) ?_|refine aa7 (h1) ?_
  simp only[go_sem,cf6,ax4,l1,l2,Option.getD_some]
  first|refine aa5 fok35 (h2) ?_|refine aa7 (h2) ?_
  simp only[go_sem]
  exact am8 (by simp)
 | false=>
  rw[hR] at h1;simp only[ic34,go_sem,List.cons_append,List.nil_append,cf6,ax4,l1,l2,Option.getD_some]
  first|refine aa5 fok35 (h1) ?_|refine aa7 (h1) ?_
  simp only[go_sem];exact am8 (by simp)
theorem fb8 (R:Int→Int→Bool)(L:List Int)(hpos:∀ n∈L,0≤n∧n<256)(hd:L.Nodup){n m:Int}(hn:n∈L)(hm:m∈L) :
  PC Tryz.prog EE 36 ([.int .i64 m,.int .i64 n]++[.ac5 [.al2 (at6 (aq4 R L) L),.al2 (at6 (cj6 R L) L)]]) (.bool (at7 (fun a b=>R b a) L m n)):=by
 have hb:∀ g:Int→Nat,Bnd 0 (.al2 (at6 g L)):=fun g=>.al2 _ (fun e he=>by obtain ⟨x,_,rfl⟩:=List.mem_map.1 he; exact .int _ _) fun e he=>by obtain ⟨x,_,rfl⟩:=List.mem_map.1 he; exact .agg _ (bq5 _)
 refine ar1 hE fok36 (nZ rfl) (dr5 (.int _ _) (.int _ _) (.ac5 _ (be7 (hb _) (hb _)))) ?_;have l1:=bm2 (aq4 R L) n L;have l2:=bm2 (cj6 R L) m L;rw[if_pos hn] at l1;rw[if_pos hm] at l2;have e1:=fp8 (R:=R) hpos n hm;have e2:=di1 (R:=R) hpos hd hm hn;have pn:=hpos n hn;have pm:=hpos m hm;obtain ⟨a,ha⟩:∃ a:Nat,n=(a:Int):=⟨n.toNat,by omega⟩;obtain ⟨b,hb⟩:∃ b:Nat,m=(b:Int):=⟨m.toNat,by omega⟩;have h1:=bh6 (aq4 R L n) b (by omega);have h2:=bh6 (cj6 R L m) a (by omega);have t1:(aq4 R L n).testBit b=R n m:=by rw[← e1,hb,Int.toNat_natCast]
 have t2:(cj6 R L m).testBit a=eh5 R L m n:=by rw[← e2,ha,Int.toNat_natCast]
 rw[t1,← hb] at h1;rw[t2,← ha] at h2
 have hw:at7 (fun a b=>R b a) L m n=(R n m&&!eh5 R L m n):=by
  unfold at7
  first|rfl|rw[bt1]
 rw[hw]
 cases hR:R n m with
 | true=>
  rw[hR] at h1;simp only[ic36,go_sem,List.cons_append,List.nil_append,cf6,ax4,l1,l2,Option.getD_some]
  first|refine aa5 fok35 (h1) ?_|refine aa7 (h1) ?_
  simp only[go_sem,cf6,ax4,l1,l2,Option.getD_some]
  first|refine aa5 fok35 (h2) ?_|refine aa7 (h2) ?_
  simp only[go_sem]
  exact am8 (by simp)
 | false=>
  rw[hR] at h1;simp only[ic36,go_sem,List.cons_append,List.nil_append,cf6,ax4,l1,l2,Option.getD_some]
  first|refine aa5 fok35 (h1) ?_|refine aa7 (h1) ?_
  simp only[go_sem];exact am8 (by simp)
end Go.Id.Tryz
