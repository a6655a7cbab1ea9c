/- The library's sort by a function,walked: whole. Conditions: what is compared is answered by a pure function,a strict weak order; at most 255 numbers. -/
import Derived.Test.YtlnkchkhffkofaaGreatDoorTNUD
import Derived.Sort.LotD3
import Derived.Sort.AssemblyPlain
import Derived.Test.YtlnkchkhffkofaaGreatDoorTNUA
import Derived.Test.YtlnkchkhffkofaaGreatDoorTNTG
import Derived.Test.YtlnkchkhffkofaaGreatDoorMf
import Derived.Test.YtlnkchkhffkofaaGreatDoorFwZb
import Derived.Test.YtlnkchkhffkofaaGreatDoorMv
import Derived.Test.YtlnkchkhffkofaaGreatDoorTNQO
import Derived.Test.YtlnkchkhffkofaaGreatDoorTNPD
set_option linter.all false
namespace Go.Id.Tryz
open Go Go.Id Go.Proofs
set_option maxRecDepth 100000
section
variable {α:Type} [Inhabited α] (emb:α->Int) (tl:List IV) {cf:α->α->Int} {g:Nat} {first cap:List IV} {id:Nat}
theorem SKp.up {d:Array α}{σ u v:Store}(h:SKp emb tl id d σ u)(h1:v.obj=u.obj)(h2:u.next<=v.next):SKp emb tl id d σ v:=⟨Nat.le_trans h.next h2,fun i hi hn=>by rw[h1]; exact h.other i hi hn,by rw[h1]; exact h.row⟩
theorem iz7 (hC:bp9 emb cf g first cap)(hO:Go.Sort.SWO (ltOf cf)):∀ (N a b lim:Nat) (d:Array α) (σ:Store),b-a<N->a<=b->b<=d.size->d.size<256->lim<2^40->Go.Sort.Below (ltOf cf) a b d->id<σ.next->σ.obj id=some (.row (ax8 emb tl d)) ->
  C Tryz.prog EE 71 [.slice id 0 d.size 1,.int .i64 a,.int .i64 b,.int .i64 lim,.func (.func g) first cap] σ fun v s=>v=.tuple []/\∃ d',Go.Sort.PermIn a b d d'/\Go.Sort.SortedIn (ltOf cf) a b d'/\SKp emb tl id d' σ s:=by
 intro N
 induction N with
 | zero=>intro a b lim d σ h; exact absurd h (Nat.not_lt_zero _)
 | succ N ih=>
 intro a b lim d σ hN hab hb hz hlim hB hid ho;refine hh5 fok71 (nZ rfl) ?_;simp only[ic71];refine ad1 (ae7 ?_);simp only[go_sem];refine ad1 (ae7 ?_);simp only[go_sem];refine ba9 (en1 (fun m fr t=>∃ (a' b' lim':Nat) (wb wp:Bool) (dk:Array α),fr=[(0,.slice id 0 d.size 1),(1,.int .i64 a'),(2,.int .i64 b'),(3,.int .i64 lim'),(4,.func (.func g) first cap),(10,.bool wb),(11,.bool wp)]/\m=b'-a'/\a<=a'/\a'<=b'/\b'<=b/\lim'<=lim/\dk.size=d.size/\Go.Sort.Below (ltOf cf) a' b' dk/\SKp emb tl id dk σ t/\∀ R,Go.Sort.PermIn a' b' dk R->Go.Sort.SortedIn (ltOf cf) a' b' R->Go.Sort.PermIn a b d R/\Go.Sort.SortedIn (ltOf cf) a b R) (b-a) ⟨a,b,lim,true,true,d,rfl,rfl,Nat.le_refl _,hab,Nat.le_refl _,Nat.le_refl _,rfl,hB,⟨Nat.le_refl _,fun _ _ _=>rfl,ho⟩,fun R h1 h2=>⟨h1,h2⟩⟩ ?_);rintro m fr t ⟨a',b',lim',wb,wp,dk,rfl,rfl,haa,hab',hbb,hll,hsz,hB,hS,hF⟩;have hidt:id<t.next:=Nat.lt_of_lt_of_le hid hS.next;have wlen:=fl2 (a:=b') (b:=a') hab' (by omega);refine ba9 (ad1 (ae7 ?_));simp only[go_sem,wlen]
 -- few
 refine ad1 (ae7 ?_);by_cases h12:b'-a'<=12
 ·have c1:((b'-a':Nat):Int)<=12:=by omega
  have hi:=dz1 emb tl hC dk a' b' hab' (by omega) (by omega) hS.row;rw[hsz] at hi;simp only[go_sem,c1];refine ac9 fok150 hi ?_;rintro v s ⟨rfl,h1⟩;refine ⟨h1.next,?_⟩;obtain ⟨q1,q2⟩:=Go.Sort.insertionSort_holds hO dk a' b' hab' (by omega);obtain ⟨f1,f2⟩:=hF _ q1 q2;simp only[go_sem];exact ⟨_,f1,f2,hS.trans emb tl h1.kp⟩
 have c1:¬ ((b'-a':Nat):Int)<=12:=by omega
 simp only[go_sem,c1]
 -- the heap
 refine ad1 (ae7 ?_);by_cases h0:lim'=0
 ·have c2:((lim':Nat):Int)=0:=by omega
  have hi:=fk1 emb tl hC dk a' b' (by omega) (by omega) (by omega) hS.row;rw[hsz] at hi;simp only[go_sem,c2];refine ac9 fok151 hi ?_;rintro v s ⟨rfl,h1⟩;refine ⟨h1.next,?_⟩;obtain ⟨q1,q2⟩:=Go.Sort.heapSort_holds hO dk a' b' hab' (by omega);obtain ⟨f1,f2⟩:=hF _ q1 q2;simp only[go_sem];exact ⟨_,f1,f2,hS.trans emb tl h1.kp⟩
 have c2:¬ ((lim':Nat):Int)=0:=by omega
 simp only[go_sem,c2]
 -- patterns
 refine ad1 (bb7 (Q:=fun e f s=>e=.normal/\∃ (lim2:Nat) (rst:Frm) (dj:Array α),f=(0,.slice id 0 d.size 1)::(1,.int .i64 a')::(2,.int .i64 b')::(3,.int .i64 lim2)::(4,.func (.func g) first cap)::(10,.bool wb)::(11,.bool wp)::(12,.int .i64 (b'-a':Nat))::rst/\lim2<=lim/\Go.Sort.PermIn a' b' dk dj/\SKp emb tl id dj σ s) (ae7 ?_) ?_)
 ·cases wb with
  | true=>
   simp only[go_sem]
   exact ⟨lim',_,dk,rfl,hll,Go.Sort.permIn_refl dk a' b',hS.up emb tl rfl (Nat.le_refl _)⟩
  | false=>
   have hi:=ia5 emb tl dk a' b' (.func (.func g) first cap) (by omega) (by omega) (by omega) hidt hS.row;rw[hsz] at hi;have wl:=bg9 (a:=lim') (by omega) (by omega);simp only[go_sem];refine ac9 fok152 hi ?_;rintro v s ⟨rfl,dj,hp,h1⟩;refine ⟨h1.next,?_⟩;simp only[go_sem,wl];exact ⟨lim'-1,_,dj,rfl,by omega,hp,(hS.trans emb tl h1).up emb tl rfl (Nat.le_refl _)⟩
 rintro e f t ⟨rfl,lim2,rst,d2,rfl,hl2,hP2,hS2⟩;have hs2:d2.size=d.size:=by rw[hP2.1]; exact hsz
 have hid2:id<t.next:=Nat.lt_of_lt_of_le hid hS2.next;clear c1 c2 wlen hS hidt;simp only[go_sem]
 -- the pivot
 refine ad1 (ae7 ?_);have hch:=gu1 emb tl hC d2 a' b' (by omega) (by omega) (by omega) hid2 hS2.row;rw[hs2] at hch;simp only[go_sem];refine ac9 fok153 hch ?_;rintro v t3 ⟨⟨pv,hh,rfl,hp1,hp2⟩,h3⟩;refine ⟨h3.next,?_⟩;have hS3:=hS2.trans emb tl h3;have hid3:id<t3.next:=Nat.lt_of_lt_of_le hid hS3.next;clear h3;simp only[go_sem];refine ad1 (bb7 (Q:=fun e f s=>e=.normal/\∃ (pv:Nat) (hh:Int) (rst:Frm) (dj:Array α),f=(0,.slice id 0 d.size 1)::(1,.int .i64 a')::(2,.int .i64 b')::(3,.int .i64 lim2)::(4,.func (.func g) first cap)::(10,.bool wb)::(11,.bool wp)::(12,.int .i64 (b'-a':Nat))::(13,.int .i64 pv)::(14,.int .i64 hh)::rst/\a'<=pv/\pv<b'/\Go.Sort.PermIn a' b' dk dj/\SKp emb tl id dj σ s) (ae7 ?_) ?_)
 ·by_cases e2:hh=2
  ·have hrv:=gd4 emb tl d2 a' b' (.func (.func g) first cap) (f:=[]) (by omega) (by omega) (by omega) hS3.row;rw[hs2] at hrv;have w1:=bg9 (a:=b') (by omega) (by omega);have w2:=fl2 (a:=pv) (b:=a') hp1 (by omega);have w3:=fl2 (a:=b'-1) (b:=pv-a') (by omega) (by omega);simp only[go_sem,e2];refine ac9 fok154 hrv ?_;rintro v s ⟨rfl,h1⟩;refine ⟨h1.next,?_⟩;simp only[go_sem,w1,w2,w3];exact ⟨_,_,_,_,rfl,by omega,by omega,Go.Sort.permIn_trans _ _ _ a' b' hP2 (Go.Sort.reverseRange_holds d2 a' b' hab' (by omega)),(hS3.trans emb tl h1.kp).up emb tl rfl (Nat.le_refl _)⟩
  ·simp only[go_sem,e2];exact ⟨_,_,_,_,rfl,hp1,hp2,hP2,hS3.up emb tl rfl (Nat.le_refl _)⟩
 clear hS3 hid3 hp1 hp2 pv hh hch;rintro e f t ⟨rfl,pv,hh,rst,d3,rfl,hp1,hp2,hP3,hS3⟩;have hs3:d3.size=d.size:=by rw[hP3.1]; exact hsz
 clear hP2 hS2 hs2 hid2;simp only[go_sem]
 -- nearly in order
 refine ad1 (bb7 (Q:=fun e f s=>(e=.ret/\∃ dj,Go.Sort.PermIn a' b' dk dj/\Go.Sort.SortedIn (ltOf cf) a' b' dj/\SKp emb tl id dj σ s)\/(e=.normal/\∃ (rst:Frm) (dj:Array α),f=(0,.slice id 0 d.size 1)::(1,.int .i64 a')::(2,.int .i64 b')::(3,.int .i64 lim2)::(4,.func (.func g) first cap)::(10,.bool wb)::(11,.bool wp)::(12,.int .i64 (b'-a':Nat))::(13,.int .i64 pv)::rst/\Go.Sort.PermIn a' b' dk dj/\SKp emb tl id dj σ s)) (ae7 ?_) ?_)
 ·by_cases hgo:(wb=true/\wp=true)/\hh=1
  ·obtain ⟨⟨rfl,rfl⟩,e1⟩:=hgo;have hpi:=gd8 emb tl hC d3 a' b' (by omega) (by omega) (by omega) hS3.row;rw[hs3] at hpi;have hB3:=hB.perm (by omega) hP3;obtain ⟨q1,q2⟩:=Go.Sort.partialInsertionSort_holds hO d3 a' b' (by omega) (by omega) hB3;simp only[go_sem,e1];refine ac9 fok155 hpi ?_;rintro v s ⟨rfl,h1⟩;refine ⟨h1.next,?_⟩;generalize Go.Sort.partialInsertionSort (ltOf cf) d3 a' b'=pr at *;obtain ⟨dp,bp⟩:=pr
   cases bp with
   | true=>
    simp only[go_sem]
    first|exact .inl ⟨rfl,dp,Go.Sort.permIn_trans _ _ _ a' b' hP3 q1,q2 rfl,hS3.trans emb tl h1.kp⟩|exact .inl ⟨trivial,dp,Go.Sort.permIn_trans _ _ _ a' b' hP3 q1,q2 rfl,hS3.trans emb tl h1.kp⟩|exact .inl ⟨dp,Go.Sort.permIn_trans _ _ _ a' b' hP3 q1,q2 rfl,hS3.trans emb tl h1.kp⟩|exact ⟨dp,Go.Sort.permIn_trans _ _ _ a' b' hP3 q1,q2 rfl,hS3.trans emb tl h1.kp⟩
   | false=>
    simp only[go_sem]
    first|exact .inr ⟨rfl,_,dp,rfl,Go.Sort.permIn_trans _ _ _ a' b' hP3 q1,(hS3.trans emb tl h1.kp).up emb tl rfl (Nat.le_refl _)⟩|exact .inr ⟨trivial,_,dp,rfl,Go.Sort.permIn_trans _ _ _ a' b' hP3 q1,(hS3.trans emb tl h1.kp).up emb tl rfl (Nat.le_refl _)⟩|exact .inr ⟨_,dp,rfl,Go.Sort.permIn_trans _ _ _ a' b' hP3 q1,(hS3.trans emb tl h1.kp).up emb tl rfl (Nat.le_refl _)⟩|exact ⟨_,dp,rfl,Go.Sort.permIn_trans _ _ _ a' b' hP3 q1,(hS3.trans emb tl h1.kp).up emb tl rfl (Nat.le_refl _)⟩
  ·have hsk:(wb&&wp&&decide (hh=1))=false:=by
    cases wb<;>cases wp<;>simp at hgo ⊢;exact hgo
   cases wb with
   | false=>
    simp only[go_sem]
    first|exact .inr ⟨rfl,_,d3,rfl,hP3,hS3.up emb tl rfl (Nat.le_refl _)⟩|exact .inr ⟨trivial,_,d3,rfl,hP3,hS3.up emb tl rfl (Nat.le_refl _)⟩|exact .inr ⟨_,d3,rfl,hP3,hS3.up emb tl rfl (Nat.le_refl _)⟩|exact ⟨_,d3,rfl,hP3,hS3.up emb tl rfl (Nat.le_refl _)⟩
   | true=>
    cases wp with
    | false=>
     simp only[go_sem]
     first|exact .inr ⟨rfl,_,d3,rfl,hP3,hS3.up emb tl rfl (Nat.le_refl _)⟩|exact .inr ⟨trivial,_,d3,rfl,hP3,hS3.up emb tl rfl (Nat.le_refl _)⟩|exact .inr ⟨_,d3,rfl,hP3,hS3.up emb tl rfl (Nat.le_refl _)⟩|exact ⟨_,d3,rfl,hP3,hS3.up emb tl rfl (Nat.le_refl _)⟩
    | true=>
     have e1:¬ hh=1:=by simpa using hsk
     simp only[go_sem,e1]
     first|exact .inr ⟨rfl,_,d3,rfl,hP3,hS3.up emb tl rfl (Nat.le_refl _)⟩|exact .inr ⟨trivial,_,d3,rfl,hP3,hS3.up emb tl rfl (Nat.le_refl _)⟩|exact .inr ⟨_,d3,rfl,hP3,hS3.up emb tl rfl (Nat.le_refl _)⟩|exact ⟨_,d3,rfl,hP3,hS3.up emb tl rfl (Nat.le_refl _)⟩
 rintro e f t4 (⟨rfl,dj,q1,q2,hS⟩|⟨rfl,rst,d4,rfl,hP4,hS4⟩)
 ·obtain ⟨f1,f2⟩:=hF _ q1 q2;simp only[go_sem];exact ⟨_,f1,f2,hS⟩
 have hs4:d4.size=d.size:=by rw[hP4.1]; exact hsz
 have hB4:=hB.perm (by omega) hP4;have hF4:∀ R,Go.Sort.PermIn a' b' d4 R->Go.Sort.SortedIn (ltOf cf) a' b' R->Go.Sort.PermIn a b d R/\Go.Sort.SortedIn (ltOf cf) a b R:=fun R h1 h2=>hF R (Go.Sort.permIn_trans _ _ _ a' b' hP4 h1) h2
 have hid4:id<t4.next:=Nat.lt_of_lt_of_le hid hS4.next;clear hP3 hS3 hs3 hP4 hF hB;simp only[go_sem]
 -- many that are the same
 have z1:(0:Int)<=(pv:Int):=by omega
 have z2:(pv:Int)<d.size:=by omega
 have xp:=ai6 emb tl (d:=d4) (k:=pv) (by omega);refine ad1 (bb7 (Q:=fun e f s=>(e=.exit 1/\∃ (mid:Nat) (dj:Array α),f=[(0,.slice id 0 d.size 1),(1,.int .i64 mid),(2,.int .i64 b'),(3,.int .i64 lim2),(4,.func (.func g) first cap),(10,.bool wb),(11,.bool wp)]/\a'<mid/\mid<=b'/\dj.size=d.size/\Go.Sort.Below (ltOf cf) mid b' dj/\SKp emb tl id dj σ s/\∀ R,Go.Sort.PermIn mid b' dj R->Go.Sort.SortedIn (ltOf cf) mid b' R->Go.Sort.PermIn a b d R/\Go.Sort.SortedIn (ltOf cf) a b R)\/(e=.normal/\∃ (rst:Frm),f=(0,.slice id 0 d.size 1)::(1,.int .i64 a')::(2,.int .i64 b')::(3,.int .i64 lim2)::(4,.func (.func g) first cap)::(10,.bool wb)::(11,.bool wp)::(12,.int .i64 (b'-a':Nat))::(13,.int .i64 pv)::rst/\SKp emb tl id d4 σ s)) (ae7 ?_) ?_)
 ·by_cases ha0:0<a'
  ·have y0:(0:Int)<(a':Int):=by omega
   have y1:(0:Int)<=((a'-1:Nat):Int):=by omega
   have y2:((a'-1:Nat):Int)<d.size:=by omega
   have w1:=bg9 (a:=a') (by omega) (by omega);have xa:=ai6 emb tl (d:=d4) (k:=a'-1) (by omega);have hc:=hC.pc d4[a'-1]! d4[pv]!;simp only[go_sem,y0,y1,y2,z1,z2,w1,hS4.row,xa,xp,Nat.mul_one];refine ak5 hC.ok hc ?_;by_cases hcf:cf d4[a'-1]! d4[pv]! < 0
   ·simp only[go_sem,hcf]
    first|exact .inr ⟨rfl,_,rfl,hS4.up emb tl rfl (Nat.le_add_right _ _)⟩|exact .inr ⟨trivial,_,rfl,hS4.up emb tl rfl (Nat.le_add_right _ _)⟩|exact .inr ⟨_,rfl,hS4.up emb tl rfl (Nat.le_add_right _ _)⟩|exact ⟨_,rfl,hS4.up emb tl rfl (Nat.le_add_right _ _)⟩
   ·obtain ⟨mid,d5,hx⟩:∃ mid d5,Go.Sort.partitionEqual (ltOf cf) d4 a' b' pv=(mid,d5):=⟨_,_,rfl⟩;have hpe:=fun U (h:SKp emb tl id d4 σ U)=>gu4 emb tl hC (σ:=U) d4 a' b' pv hp1 hp2 (by omega) (by omega) h.row
    rw[hs4,hx] at hpe;have hpe2:=fun U (h:SKp emb tl id d4 σ U)=>(hpe U h).mono (Q':=fun v s=>v=.int .i64 mid/\U.next<=s.next/\SKp emb tl id d5 σ s) fun v s ⟨e,h1⟩=>⟨e,h1.next,h.trans emb tl h1.kp⟩
    simp only[go_sem,hcf];refine ac9 fok156 (hpe2 _ (hS4.up emb tl rfl (Nat.le_add_right _ _))) ?_;rintro v s ⟨rfl,h1n,h1⟩;refine ⟨h1n,?_⟩;obtain ⟨r1,r2,r3,r4,r5⟩:=Go.Sort.round_eq hO (Go.Sort.partitionEqual_holds (ltOf cf)) ha0 hp1 hp2 (by omega) hB4 (aw1 hcf) hx;simp only[go_sem]
    first|exact .inl ⟨rfl,mid,d5,rfl,r1,r2,r3.trans hs4,r4,h1.up emb tl rfl (Nat.le_refl _),fun R k1 k2=>hF4 R (r5 R k1 k2).1 (r5 R k1 k2).2⟩|exact .inl ⟨trivial,mid,d5,rfl,r1,r2,r3.trans hs4,r4,h1.up emb tl rfl (Nat.le_refl _),fun R k1 k2=>hF4 R (r5 R k1 k2).1 (r5 R k1 k2).2⟩|exact .inl ⟨mid,d5,rfl,r1,r2,r3.trans hs4,r4,h1.up emb tl rfl (Nat.le_refl _),fun R k1 k2=>hF4 R (r5 R k1 k2).1 (r5 R k1 k2).2⟩
  ·have y0:¬ (0:Int)<(a':Int):=by omega
   simp only[go_sem,y0]
   first|exact .inr ⟨rfl,_,rfl,hS4.up emb tl rfl (Nat.le_add_right _ _)⟩|exact .inr ⟨trivial,_,rfl,hS4.up emb tl rfl (Nat.le_add_right _ _)⟩|exact .inr ⟨_,rfl,hS4.up emb tl rfl (Nat.le_add_right _ _)⟩|exact ⟨_,rfl,hS4.up emb tl rfl (Nat.le_add_right _ _)⟩
 rintro e f t5 (⟨rfl,mid,d5,rfl,m1,m2,m3,m4,m5,m6⟩|⟨rfl,rst,rfl,hS5⟩)
 ·simp only[go_sem];exact ⟨b'-mid,by omega,mid,b',lim2,wb,wp,d5,rfl,rfl,by omega,m2,hbb,hl2,m3,m4,m5,m6⟩
 have hid5:id<t5.next:=Nat.lt_of_lt_of_le hid hS5.next;clear xp z1 z2 hid4 hS4;simp only[go_sem]
 -- parted
 have hpt:=ip8 emb tl hC (σ:=t5) d4 a' b' pv hp1 hp2 (by omega) (by omega) hS5.row;obtain ⟨mid,ap0,d6,hx⟩:∃ mid ap0 d6,Go.Sort.partition (ltOf cf) d4 a' b' pv=(mid,ap0,d6):=⟨_,_,_,rfl⟩;rw[hs4,hx] at hpt;refine ad1 (ae7 ?_);simp only[go_sem];refine ac9 fok157 hpt ?_;rintro v t6 ⟨⟨ap,rfl⟩,h6⟩;refine ⟨h6.next,?_⟩;obtain ⟨r1,r2,r3,r4,r5,r6,r7⟩:=Go.Sort.round_part hO (Go.Sort.partition_holds (ltOf cf)) hp1 hp2 (show b'<=d4.size by omega) hB4 hx;have hS6:=hS5.trans emb tl h6.kp;have hid6:id<t6.next:=Nat.lt_of_lt_of_le hid hS6.next;clear h6 hS5;have hs6:d6.size=d.size:=r3.trans hs4;have w1:=fl2 (a:=mid) (b:=a') r1 (by omega);have w2:=fl2 (a:=b') (b:=mid) (by omega) (by omega);have n8:¬ ((8:Int)=0):=by decide
 have w3:IntKind.i64.wrap (((b'-a':Nat):Int).tdiv 8)=(((b'-a')/8:Nat):Int):=by
  have:((b'-a':Nat):Int).tdiv 8=(((b'-a')/8:Nat):Int):=by rw[Int.tdiv_eq_ediv_of_nonneg (by omega)]; omega
  rw[this,wrap64 (by omega) (by omega)]
 have w4:=ad4 (i:=mid) (by omega);simp only[go_sem];refine ad1 (ae7 ?_);simp only[go_sem];refine ad1 (ae7 ?_);simp only[go_sem,w1,w2];refine ad1 (ae7 ?_);simp only[go_sem,n8,w3];refine ad1 (ae7 ?_);simp only[go_sem];by_cases hlr:mid-a'<b'-mid
 ·have c3:((mid-a':Nat):Int)<((b'-mid:Nat):Int):=by omega
  have hih:=fun U (h:SKp emb tl id d6 σ U)=>ih a' mid lim2 d6 U (by omega) r1 (by omega) (by omega) (by omega) r4 (Nat.lt_of_lt_of_le hid h.next) h.row
  rw[hs6] at hih;refine ae7 ?_;simp only[go_sem,c3];refine ac9 fok71 (hih _ (hS6.up emb tl rfl (Nat.le_refl _))) ?_;rintro v t7 ⟨rfl,d7,k1,k2,h7⟩;refine ⟨h7.next,?_⟩;obtain ⟨g1,g2⟩:=r6 d7 k1 k2;have hS7:=(hS6.up emb tl (v:=t6) rfl (Nat.le_refl _)).trans emb tl h7;simp only[go_sem,w4];exact ⟨b'-(mid+1),by omega,mid+1,b',lim2,_,ap,d7,rfl,rfl,by omega,by omega,hbb,hl2,by rw[k1.1]; exact hs6,g1,hS7.up emb tl rfl (Nat.le_refl _),fun R h1 h2=>hF4 R (g2 R h1 h2).1 (g2 R h1 h2).2⟩
 ·have c3:¬ ((mid-a':Nat):Int)<((b'-mid:Nat):Int):=by omega
  have hih:=fun U (h:SKp emb tl id d6 σ U)=>ih (mid+1) b' lim2 d6 U (by omega) (by omega) (by omega) (by omega) (by omega) r5 (Nat.lt_of_lt_of_le hid h.next) h.row
  rw[hs6] at hih;refine ae7 ?_;simp only[go_sem,c3,w4];refine ac9 fok71 (hih _ (hS6.up emb tl rfl (Nat.le_refl _))) ?_;rintro v t7 ⟨rfl,d7,k1,k2,h7⟩;refine ⟨h7.next,?_⟩;obtain ⟨g1,g2⟩:=r7 d7 k1 k2;have hS7:=(hS6.up emb tl (v:=t6) rfl (Nat.le_refl _)).trans emb tl h7;simp only[go_sem];exact ⟨mid-a',by omega,a',mid,lim2,_,ap,d7,rfl,rfl,by omega,by omega,by omega,hl2,by rw[k1.1]; exact hs6,g1,hS7.up emb tl rfl (Nat.le_refl _),fun R h1 h2=>hF4 R (g2 R h1 h2).1 (g2 R h1 h2).2⟩
theorem fk5 (hC:bp9 emb cf g first cap)(hO:Go.Sort.SWO (ltOf cf)){σ:Store}(d:Array α)(hz:d.size<256)(hid:id<σ.next)(ho:σ.obj id=some (.row (ax8 emb tl d))) :
  C Tryz.prog EE 31 [.slice id 0 d.size 1,.func (.func g) first cap] σ fun v s=>v=.tuple []/\∃ d',Go.Sort.PermIn 0 d.size d d'/\Go.Sort.SortedIn (ltOf cf) 0 d.size d'/\SKp emb tl id d' σ s:=by
 refine C_f fok31 (nZ rfl) ?_
 have w0:IntKind.u64.wrap (d.size:Int)=d.size:=by
  show (d.size:Int)%18446744073709551616=d.size;omega
 simp only[ic31,go_sem,w0];refine aa5 fok72 (gd7 d.size hz) ?_;simp only[go_sem];have h8:=(by8 d.size hz).1;refine ac9 fok71 (iz7 emb tl hC hO (d.size+1) 0 d.size _ d σ (by omega) (Nat.zero_le _) (Nat.le_refl _) hz (by omega) (.inl rfl) hid ho) ?_;rintro v s ⟨rfl,hs⟩;obtain ⟨d',q1,q2,q3⟩:=hs;refine ⟨q3.next,?_⟩;simp only[go_sem];exact ⟨d',q1,q2,q3⟩
end
open Go Go.Id Go.Proofs Go.Shelf Go.Id.Md
end Go.Id.Tryz
set_option linter.all false
namespace Go.Id.Tryz
open Go Go.Id Go.Proofs Go.Shelf Go.Id.Md
set_option maxRecDepth 100000
theorem ca2 {σ:Store}{id nid:Nat}(l:List aa2)(ho:σ.obj id=some (.row []))(hl:l.length<2^31) :
  ∃ w σ',bf8 σ nid 15 (.slice id 0 0 15) (bg8 l)=some (.slice w 0 l.length 15,σ')/\σ'.next=σ.next/\σ'.obj w=some (.row (l.map aa2.cs).flatten)/\(w=id\/w=nid)/\∀ j,j≠id->j≠nid->σ'.obj j=σ.obj j:=by
 have ha:∀ x∈l.map aa2.cs,x.length=15/\x.all IV.leaf=true:=by
  intro x hx;obtain ⟨y,_,rfl⟩:=List.mem_map.1 hx;exact ⟨rfl,rfl⟩
 have hsrc:bt7 σ 15 (.aa3 (l.map aa2.cs))=some (l.length,(l.map aa2.cs).flatten):=by
  have h1:(l.map aa2.cs).all (fun e=>e.length==15)=true:=List.all_eq_true.2 fun x hx=>by rw[(ha x hx).1]; rfl
  simp only[bt7,h1,if_true,List.length_map]
 have hx1:(l.map aa2.cs).flatten.all IV.leaf=true:=bh9 fun x hx=>(ha x hx).2
 have hx0:¬ ((l.map aa2.cs).flatten.all IV.leaf=false):=by rw[hx1]; decide
 unfold bf8;rw[hsrc];simp only[hx0,if_false,ho];by_cases h0:l.length=0
 ·have hxs:l=[]:=List.length_eq_zero_iff.1 h0;subst hxs;exact ⟨id,σ,rfl,rfl,ho,.inl rfl,fun _ _ _=>rfl⟩
 ·have h2:0+l.length<=2147483648:=by omega
  have h3:l.length<=2147483648:=by omega
  simp only[h0,and_false,if_false,List.length_nil,Nat.zero_mul,Nat.zero_add,List.drop_nil,List.all_nil,and_self,true_and,List.nil_append,h3,if_true];refine ⟨nid,_,rfl,rfl,?_,.inr rfl,fun j h3 h4=>?_⟩
  ·rw[aa4,if_pos rfl]
  ·rw[aa4,if_neg h4];show (if j=id then none else σ.obj j)=_;rw[if_neg h3]
def iz2:aa2:=⟨[],⟨0,[],[]⟩,0,[],[],[],[],[],[],[],[],[],[]⟩
def by4 (p:Pool)(n:Int):IV:=if 0<=n/\n<p.rows.length then .tuple [.agg (p.rows.getD n.toNat ⟨default,0,0⟩).pkg.cs,.int .i64 0] else .tuple [.agg iz2.cs,.int .i64 5]
theorem fj8 (p:Pool)(n:Int)(hf:∀ q∈ac8 p,q.Fit):PC Tryz.prog EE 19 [p.v,.int .i64 n] (by4 p n):=by
 unfold by4;by_cases h:0<=n/\n<p.rows.length
 ·rw[if_pos h];obtain ⟨k,rfl⟩:=Int.eq_ofNat_of_zero_le h.1;have hk:k<p.rows.length:=by omega
  have:=av8 p k hk (hf _ (List.mem_map.2 ⟨_,List.getElem_mem hk,rfl⟩));have e:p.rows.getD (k:Int).toNat ⟨default,0,0⟩=p.rows[k]:=by simp[List.getD_eq_getElem?_getD,hk]
  rw[e]; exact this
 ·rw[if_neg h];refine ag3 hE fok19 (nZ rfl) (ah6 (aq8 p) (.int _ _)) ?_;have hr:=bx3 p.rows n;have hb:(decide (0<=n)&&decide (n<p.rows.length))=false:=by simpa using h
  rw[hb] at hr;simp only[ic19,go_sem,Pool.v]
  first|refine aa5 fok57 (hr) ?_|refine aa6 (hr) ?_
  simp only[go_sem];exact .bu8 (.cons (.ih6 (.cons (dz4 _) (.cons (gc8 _ _) (.cons (dz4 _) (.cons (dz4 _) (.cons (gc8 _ _) (.cons (dz4 _) (.cons .bg7 (.cons .bg7 (.cons .bg7 (.cons .bg7 (.cons .bg7 (.cons .bg7 (.cons .bg7 (.cons .bg7 (.cons .bg7 .nil)))))))))))))))) (.cons (gc8 _ _) .nil))
theorem gc5 (r:ax5):(r.cs.drop 15).head? = some (.int .i64 r.dz9):=rfl
theorem bk1 (p:Pool)(n:Int):PC Tryz.prog EE 21 [p.v,.int .i64 n] (.int .i64 (p.az5 n)):=by
 unfold Pool.az5;have hr:=bx3 p.rows n;refine ap7 fok21 (nZ rfl) fun σ=>?_
 by_cases h:0<=n/\n<p.rows.length
 ·rw[if_pos h];obtain ⟨k,rfl⟩:=Int.eq_ofNat_of_zero_le h.1;have hk:k<p.rows.length:=by omega
  have hb:(decide (0<=(k:Int))&&decide ((k:Int)<p.rows.length))=true:=by simp; omega
  rw[hb] at hr;have c1:(k:Int)<p.rows.length:=by omega
  have c2:(0:Int)<=k:=by omega
  have hg:(p.rows.map ax5.cs).getD k []=p.rows[k].cs:=by simp[List.getD_eq_getElem?_getD,hk]
  have e:p.rows.getD (k:Int).toNat ⟨default,0,0⟩=p.rows[k]:=by simp[List.getD_eq_getElem?_getD,hk]
  rw[e];simp only[ic21,go_sem,Pool.v];refine aa5 fok57 hr ?_;simp only[go_sem,c1,c2,hg,bb4,gc5,and_self]
 ·rw[if_neg h];have hb:(decide (0<=n)&&decide (n<p.rows.length))=false:=by simpa using h
  rw[hb] at hr;simp only[ic21,go_sem,Pool.v];refine aa5 fok57 hr ?_;simp only[go_sem,and_self]
end Go.Id.Tryz
set_option linter.all false
namespace Go.Id.Tryz
open Go Go.Id Go.Proofs Go.Shelf Go.Id.Md
set_option maxRecDepth 100000
set_option maxHeartbeats 1000000
theorem ip9 (o:ak1)(p q:aa2){i:Nat}(hi:i<o.a.l.length)(h62:o.a.l.length<2^62):PC Tryz.prog EE 123 [.ab6 p.cs,.ab6 [o.v],.ab6 [.int .i64 i],.ab6 q.cs] (.int .i64 (am5 (ak1.ba4 (decide (p.name=(o.a.pk i).name))) (ak1.ba4 (decide (q.name=(o.a.pk i).name))))):=by
 refine ag3 hE fok123 (nZ rfl) (du1 (.ab6 _ (ag9 p)) (ah2 (ag7 o)) (ah2 (.int _ _)) (.ab6 _ (ag9 q))) ?_;have d1:(i:Int)<o.a.l.length:=by omega
 have d2:(0:Int)<=i:=by omega
 have g1:(o.a.l.map aa2.cs).getD i []=o.a.l[i].cs:=by simp[List.getD_eq_getElem?_getD,hi]
 have hpk:=dy9 o.a hi;rw[hpk];have p0:p.cs.head? = some (.str p.name):=rfl;have q0:q.cs.head? = some (.str q.name):=rfl;have i0:(o.a.l[i]).cs.head? = some (.str (o.a.l[i]).name):=rfl;have y1:=bq8 (decide (p.name=(o.a.l[i]).name));have y2:=bq8 (decide (q.name=(o.a.l[i]).name));have hc:=az7 (ak1.ba4 (decide (p.name=(o.a.l[i]).name))) (ak1.ba4 (decide (q.name=(o.a.l[i]).name)));rw[do6];simp only[ic123,go_sem,am4,ag1,p0,d1,d2,g1,i0]
 first|refine aa5 fok54 (y1) ?_|refine aa6 (y1) ?_
 simp only[go_sem,am4,ag1,q0,d1,d2,g1,i0]
 first|refine aa5 fok54 (y2) ?_|refine aa6 (y2) ?_
 simp only[go_sem]
 first|refine aa5 fok32 (hc) ?_|refine aa6 (hc) ?_
 simp only[go_sem];exact bc1 rfl
theorem iq1 (p q:aa2)(hp:EVR.small p.evr)(hq:EVR.small q.evr):PC Tryz.prog EE 124 [.ab6 q.cs,.ab6 p.cs] (.int .i64 (ak8 q.evr p.evr)):=by
 refine ag3 hE fok124 (nZ rfl) (ah6 (.ab6 _ (ag9 q)) (.ab6 _ (ag9 p))) ?_;have h:=at6 q.evr p.evr hq hp;have p1:(p.cs.drop 1).take 3=p.evr.cs:=rfl;have q1:(q.cs.drop 1).take 3=q.evr.cs:=rfl;have p2:(p.cs.drop 1).length=14:=rfl;have q2:(q.cs.drop 1).length=14:=rfl;simp only[ic124,go_sem,ag1,p1,q1,p2,q2]
 first|refine aa5 fok20 (h) ?_|refine aa6 (h) ?_
 simp only[go_sem];exact bc1 rfl
theorem iq2 (o:ak1)(hO:OOK o){i n m:Nat}(hi:i<o.a.l.length)(hn:n<o.a.l.length)(hm:m<o.a.l.length) :
  PC Tryz.prog EE 121 [.int .i64 n,.int .i64 m,.ab6 [o.v],.ab6 [.int .i64 i]] (.int .i64 (o.upF i n m)):=by
 refine ag3 hE fok121 (nZ rfl) (du1 (.int _ _) (.int _ _) (ah2 (ag7 o)) (ah2 (.int _ _))) ?_;have hlen:=hO.a.len;have hpn:=dy9 o.a hn;have hpm:=dy9 o.a hm;have en:=(hO.a.small _ (List.getElem_mem hn)).1;have em:=(hO.a.small _ (List.getElem_mem hm)).1
 have hv:o.upF i n m=orM [am5 (ak1.ba4 (decide ((o.a.l[n]).name=(o.a.pk i).name))) (ak1.ba4 (decide ((o.a.l[m]).name=(o.a.pk i).name))),ak8 o.a.l[m].evr o.a.l[n].evr]:=by
  unfold ak1.upF ak1.ff8 Md.lex;rw[hpn,hpm];simp only[orM]
  repeat (first|rfl|split)
  all_goals simp_all
 have c1:=ip9 o o.a.l[n] o.a.l[m] hi (by omega);have c5:=iq1 o.a.l[n] o.a.l[m] en em;have b1:=ah2 (ag7 o);have b2:=ah2 (v:=.int .i64 i) (.int _ _);have b4:Bnd 0 (.ab6 o.a.l[n].cs):=.ab6 _ (ag9 _);have b5:Bnd 0 (.ab6 o.a.l[m].cs):=.ab6 _ (ag9 _)
 have hf:=ck7 [(123,[.ab6 o.a.l[n].cs,.ab6 [o.v],.ab6 [.int .i64 i],.ab6 o.a.l[m].cs]),(124,[.ab6 o.a.l[m].cs,.ab6 o.a.l[n].cs])]
  [am5 (ak1.ba4 (decide ((o.a.l[n]).name=(o.a.pk i).name))) (ak1.ba4 (decide ((o.a.l[m]).name=(o.a.pk i).name))),ak8 o.a.l[m].evr o.a.l[n].evr] rfl (by simp)
  (fun f hf c hc=>by
   simp only[List.mem_cons,List.not_mem_nil,or_false] at hf;rcases hf with rfl|rfl
   ·exact du1 b4 b1 b2 b5 c hc
   ·exact ah6 b5 b4 c hc)
  (fun k h1 h2=>by
   match k,h1 with
   | 0,_=>exact ⟨fok123.1,c1⟩
   | 1,_=>exact ⟨fok124.1,c5⟩
   | k+2,h=>simp at h; omega)
 rw[<- hv] at hf;have hov:=do6 o;have d1:(n:Int)<o.a.l.length:=by omega
 have d2:(0:Int)<=n:=by omega
 have d3:(m:Int)<o.a.l.length:=by omega
 have d4:(0:Int)<=m:=by omega
 have g1:(o.a.l.map aa2.cs).getD n []=o.a.l[n].cs:=by simp[List.getD_eq_getElem?_getD,hn]
 have g2:(o.a.l.map aa2.cs).getD m []=o.a.l[m].cs:=by simp[List.getD_eq_getElem?_getD,hm]
 simp only[ic121,go_sem,hov,am4,d1,d2,d3,d4,g1,g2,ag1,ag6,af1];rw[<- hov];generalize hS:Store.mk 18 _=S;have s14:S.obj 14=some (.cells o.a.l[n].cs):=by rw[<- hS]; simp only[aa4]; rfl
 have s15:S.obj 15=some (.cells o.a.l[m].cs):=by rw[<- hS]; simp only[aa4,if_true]
 have f14:=bp2 s14 (ag9 _);have f15:=bp2 s15 (ag9 _);have hl1:∀ (x y:IV),[x].length=[y].length:=fun _ _=>rfl
 refine ac9 fok122 (bi4 hE (hl1 _ _) (fun i hi=>?_) (by simp[IV.plain]) hf) ?_
 ·match i,hi with
  | 0,_=>
   refine .aa3 _ _ rfl (fun i hi=>?_) fun i hi j hj=>?_
   ·match i,hi with
    | 0,_=>rfl
    | 1,_=>rfl
   ·match i,hi,j,hj with
    | 0,_,0,_=>exact dh1 (.cons f14 (.cons (.keep _ b1) (.cons (.keep _ b2) (.cons f15 .nil))))
    | 1,_,0,_=>exact dh1 (.cons f15 (.cons f14 .nil))
 rintro v w ⟨rfl,rfl⟩;refine ⟨Nat.le_refl _,?_⟩;simp only[go_sem];exact bc1 rfl
theorem iq3 (o:ak1)(i:Int):PC Tryz.prog EE 55 [o.v,.int .i64 i] (.func (.func 121) [] [.ab6 [o.v],.ab6 [.int .i64 i]]):=by
 refine ag3 hE fok55 (nZ rfl) (ah6 (ag7 o) (.int _ _)) ?_;have olf:o.v.leaf=true:=rfl;have ocs:o.v.cs=[o.v]:=rfl;simp only[ic55,go_sem,olf,ocs];exact .keep _ (.func _ _ _ (fun c hc=>by cases hc) (ah6 (ah2 (ag7 o)) (ah2 (.int _ _))))
theorem gd9 (i n m:Int):PC Tryz.prog EE 53 [.int .i64 n,.int .i64 m,.ab6 [.int .i64 i]] (.int .i64 (ak1.bb9 i n m)):=by
 refine ag3 hE fok53 (nZ rfl) (aw5 (.int _ _) (.int _ _) (ah2 (.int _ _))) ?_;have y1:=bq8 (decide (n=i));have y2:=bq8 (decide (m=i));have hc:=az7 (ak1.ba4 (decide (n=i))) (ak1.ba4 (decide (m=i)));unfold ak1.bb9;simp only[ic53,go_sem]
 first|refine aa5 fok54 (y1) ?_|refine aa6 (y1) ?_
 simp only[go_sem]
 first|refine aa5 fok54 (y2) ?_|refine aa6 (y2) ?_
 simp only[go_sem]
 first|refine aa5 fok32 (hc) ?_|refine aa6 (hc) ?_
 simp only[go_sem];exact bc1 rfl
theorem ge1 (o:ak1)(n m:Int):PC Tryz.prog EE 56 [.int .i64 n,.int .i64 m,.ab6 [o.v]] (.int .i64 (o.bv8 n m)):=by
 refine ag3 hE fok56 (nZ rfl) (aw5 (.int _ _) (.int _ _) (ah2 (ag7 o))) ?_;have p1:=bk1 o.a.p n;have p2:=bk1 o.a.p m;have y1:=bq8 (decide (0<=o.a.p.az5 n));have y2:=bq8 (decide (0<=o.a.p.az5 m));have hc:=az7 (ak1.ba4 (decide (0<=o.a.p.az5 n))) (ak1.ba4 (decide (0<=o.a.p.az5 m)));unfold ak1.bv8;rw[do6];simp only[ic56,go_sem,am4]
 first|refine aa5 fok21 (p1) ?_|refine aa6 (p1) ?_
 simp only[go_sem]
 first|refine aa5 fok54 (y1) ?_|refine aa6 (y1) ?_
 simp only[go_sem,am4]
 first|refine aa5 fok21 (p2) ?_|refine aa6 (p2) ?_
 simp only[go_sem]
 first|refine aa5 fok54 (y2) ?_|refine aa6 (y2) ?_
 simp only[go_sem]
 first|refine aa5 fok32 (hc) ?_|refine aa6 (hc) ?_
 simp only[go_sem];exact bc1 rfl
structure iq4 (o:ak1) (f:Nat×List IV) (c:Int->Int->Int):Prop where
 ok:okF Tryz.prog f.1=true
 bnd:∀ x∈f.2,Bnd 0 x
 pc:∀ n m:Nat,n<o.a.l.length->m<o.a.l.length->PC Tryz.prog EE f.1 ([.int .i64 n,.int .i64 m]++f.2) (.int .i64 (c n m))
theorem gu6 (o:ak1)(hO:OOK o)(fs:List (Nat×List IV))(cs:List (Int->Int->Int))(hl:fs.length=cs.length)(hn:fs.length<2^40)(hf:∀ k (h1:k<fs.length) (h2:k<cs.length),iq4 o fs[k] cs[k])
  {n m:Nat} (h1:n<o.a.l.length) (h2:m<o.a.l.length):PC Tryz.prog EE 120 [.int .i64 n,.int .i64 m,.ab6 [.aa3 (fs.map fnC)],.ab6 [o.v]] (.int .i64 (cv8 cs o.cmp n m)):=by
 have hbf:Bnd 0 (.aa3 (fs.map fnC)):=.aa3 _ fun e he c hc=>by
  obtain ⟨f,hf',rfl⟩:=List.mem_map.1 he;obtain ⟨k,hk,rfl⟩:=List.mem_iff_getElem.1 hf'
  cases hc with
  | head=>exact .func _ _ _ (fun c hc=>by cases hc) (hf k hk (by omega)).bnd
  | tail _ h=>cases h
 refine ag3 hE fok120 (nZ rfl) (du1 (.int _ _) (.int _ _) (ah2 hbf) (ah2 (ag7 o))) ?_;have hcmp:=ci7 o hO h1 h2;simp only[ic120,go_sem];refine ab4 noT (fun k fr s=>fr=[(0,.int .i64 n),(1,.int .i64 m),(3,.ab6 [o.v]),(10,.aa3 (fs.map fnC)),(11,.int .i64 fs.length),(12,.int .i64 k)]/\cv8 cs o.cmp n m=cv8 (cs.drop k) o.cmp n m) fs.length ⟨rfl,rfl⟩ ?_;rintro k fr s hle ⟨rfl,hI⟩;by_cases hlt:k<fs.length
 ·obtain ⟨f,hf',hget0,hdr,hget,htk⟩:=af5 fs k hlt;have hlt2:k<cs.length:=by omega
  have c1:(k:Int)<fs.length:=by omega
  have c2:(0:Int)<=k:=by omega
  have w1:=ad4 (i:=k) (by omega);have hA:=hf k hlt hlt2
  have hfi:fs[k]=f:=by
   have:=List.getElem?_eq_getElem hlt; rw[this] at hget0; exact Option.some.inj hget0
  rw[hfi] at hA;have hpc:=hA.pc n m h1 h2;rw[List.drop_eq_getElem_cons hlt2] at hI;simp only[cv8,Md.lex] at hI;generalize cs[k] (n:Int) (m:Int)=x at *;simp only[go_sem,c1,c2,hget,fnC];refine ak5 hA.ok hpc ?_;by_cases hx:x=0
  ·subst hx;simp only[go_sem,w1];exact ⟨hlt,by simpa using hI⟩
  ·rw[if_neg hx] at hI;simp only[go_sem,hx];rw[hI]; exact ad8 _ _
 ·have hk:k=fs.length:=by omega
  subst hk;have c1:¬ (fs.length:Int)<fs.length:=by omega
  rw[hl,List.drop_length] at hI;simp only[cv8] at hI;simp only[go_sem,c1]
  first|refine aa5 fok65 (hcmp) ?_|refine aa6 (hcmp) ?_
  simp only[go_sem];rw[hI]; exact ad8 _ _
theorem gu7 {σ:Store}(fv:IV):C Tryz.prog EE 150 [.aa1,.int .i64 0,.int .i64 0,fv] σ fun v s=>v=.tuple []/\σ.next<=s.next:=by
 refine C_f fok150 (nZ rfl) ?_;have w0:IntKind.i64.wrap (0+1)=1:=by decide
 simp only[ic150,go_sem,w0];refine ab4 noT (fun k fr t=>k=0/\fr=[(0,.aa1),(1,.int .i64 0),(2,.int .i64 0),(3,fv),(8,.int .i64 1)]/\σ.next<=t.next) 0 ⟨rfl,rfl,Nat.le_refl _⟩ ?_;rintro k fr t _ ⟨rfl,rfl,ht⟩;simp only[go_sem];exact ht
theorem ia6 {σ:Store}(fv:IV):C Tryz.prog EE 31 [.aa1,fv] σ fun v s=>v=.tuple []/\σ.next<=s.next:=by
 have hp:∀ lim:Int,C Tryz.prog EE 71 [.aa1,.int .i64 0,.int .i64 0,.int .i64 lim,fv] σ fun v s=>v=.tuple []/\σ.next<=s.next:=fun lim=>by
  refine C_f fok71 (nZ rfl) ?_;have w0:IntKind.i64.wrap (0-0)=0:=by decide
  have c1:(0:Int)<=12:=by decide
  simp only[ic71,go_sem];refine ab4 noT (fun k fr t=>k=0/\fr=[(0,.aa1),(1,.int .i64 0),(2,.int .i64 0),(3,.int .i64 lim),(4,fv),(10,.bool true),(11,.bool true)]/\σ.next<=t.next) 0 ⟨rfl,rfl,Nat.le_refl _⟩ ?_;rintro k fr t _ ⟨rfl,rfl,ht⟩;simp only[go_sem,w0,c1];refine ac9 fok150 (gu7 fv) ?_;rintro v s ⟨rfl,hs⟩;refine ⟨hs,?_⟩;simp only[go_sem];exact Nat.le_trans ht hs
 refine C_f fok31 (nZ rfl) ?_;have w0:IntKind.u64.wrap 0=0:=by decide
 have hl:=gd7 0 (by decide);simp only[ic31,go_sem,w0];refine aa5 fok72 hl ?_;simp only[go_sem];refine ac9 fok71 (hp _) ?_;rintro v s ⟨rfl,hs⟩;refine ⟨hs,?_⟩;simp only[go_sem];exact hs
theorem jh7 (o:ak1)(hr:∀ n,o.a.is n=true->(o.a.pk n).evr.rel≠[]){c:Int->Int->Int}(hc:WO o.cm2 c):Go.Sort.SWO (ltOf fun x y:fl1 o=>c (al5 o x) (al5 o y)):=by
 have hs:∀ x:fl1 o,o.cm2 (al5 o x):=fun x=>hr _ (by unfold al5; rw[ah7.df3]; exact decide_eq_true x.2)
 have hself:∀ n,c n n=0:=fun n=>by have:=hc.neg n n; omega
 refine ⟨fun x=>?_,fun x y z h1 h2=>?_,fun x y z h1 h2=>?_⟩
 ·show decide (c (al5 o x) (al5 o x)<0)=false;rw[hself]; rfl
 ·unfold ltOf at *;have t1:=hc.tr (al5 o x) (al5 o y) (al5 o z) (hs x) (hs y) (hs z);have t2:=hc.tr (al5 o z) (al5 o x) (al5 o y) (hs z) (hs x) (hs y);have n1:=hc.neg (al5 o x) (al5 o y);have n2:=hc.neg (al5 o y) (al5 o z);have n3:=hc.neg (al5 o x) (al5 o z);simp only[decide_eq_true_eq] at h1 h2 ⊢;omega
 ·unfold ltOf at *;have t1:=hc.tr (al5 o z) (al5 o y) (al5 o x) (hs z) (hs y) (hs x);have n1:=hc.neg (al5 o x) (al5 o y);have n2:=hc.neg (al5 o y) (al5 o z);have n3:=hc.neg (al5 o x) (al5 o z);simp only[decide_eq_false_iff_not] at h1 h2 ⊢;omega
theorem ek1 (o:ak1)(hO:OOK o)(hr:∀ n,o.a.is n=true->(o.a.pk n).evr.rel≠[])(hp:o.a.l.length<256)(i:Int)(fs:List (Nat×List IV))(cs:List (Int->Int->Int))(hl:fs.length=cs.length)(hn:fs.length<2^40)
  (hf:∀ k (h1:k<fs.length) (h2:k<cs.length),iq4 o fs[k] cs[k]) (hw:∀ c∈cs,WO o.cm2 c) :
  PC Tryz.prog EE 52 [o.v,.int .i64 i,.aa3 (fs.map fnC)] (.aa3 ((o.an6 cs i).map Md.af3)):=by
 have hbf:Bnd 0 (.aa3 (fs.map fnC)):=.aa3 _ fun e he c hc=>by
  obtain ⟨f,hf',rfl⟩:=List.mem_map.1 he;obtain ⟨k,hk,rfl⟩:=List.mem_iff_getElem.1 hf'
  cases hc with
  | head=>exact .func _ _ _ (fun c hc=>by cases hc) (hf k hk (by omega)).bnd
  | tail _ h=>cases h
 refine ag3 hE fok52 (nZ rfl) (aw5 (ag7 o) (.int _ _) hbf) ?_;have olf:o.v.leaf=true:=rfl;have ocs:o.v.cs=[o.v]:=rfl;have hi1:=by3 o i
 have hpm:=o.ar9 cs i
 cases his:o.a.is i with
 | false=>
  rw[his] at hi1
  have hsu:o.a.aw7 i=[]:=by
   unfold ah7.aw7 ah7.inst;rw[his]; rfl
  rw[hsu] at hpm;rw[List.perm_nil.1 hpm];simp only[ic52,go_sem,olf,ocs]
  first|refine aa5 fok64 (hi1) ?_|refine aa6 (hi1) ?_
  simp only[go_sem]
  exact .bg7
 | true=>
 rw[his] at hi1;simp only[ic52,go_sem,olf,ocs]
 first|refine aa5 fok64 (hi1) ?_|refine aa6 (hi1) ?_
 have ohd:∀ c:List IV,o.v=.ab6 (o.a.v::c)->o.v=.ab6 (o.a.v::c):=fun _ h=>h
 have onc:dh6 o.v=some o.v:=rfl;have omv:bz4 0 o.v=some o.v:=rfl;have old:∀ σ:Store,au4 σ none o.v=some o.a.v:=fun _=>rfl
 simp only[go_sem,onc,omv,old];refine ac9 fok15 (dg8 o.a i hO.a _) ?_;rintro v s ⟨hk,hrow⟩;refine ⟨hk.next,?_⟩;simp only[go_sem];rcases hrow with ⟨rfl,h0⟩|⟨id,row,hid1,hid2,rfl,ho,htk,hle⟩
 ·refine ac9 fok31 (ia6 _) ?_;rintro v s2 ⟨rfl,hs2⟩;refine ⟨hs2,?_⟩;simp only[go_sem];rw[h0] at hpm;rw[List.perm_nil.1 hpm];exact .bg7
 -- the numbers that there are,put into their row
 obtain ⟨zs,hzs⟩:∃ zs,zs=o.a.aw7 i:=⟨_,rfl⟩;have hzis:∀ z∈zs,∃ k:Nat,z=k/\k<o.a.l.length:=fun z hz=>cw3 (o.cn5 (by rw[<- hzs]; exact hz))
 have hzl:zs.length<256:=by
  rw[hzs];unfold ah7.aw7;split
  ·exact Nat.lt_of_le_of_lt (az3 _ _) hp
  ·show 0<256; decide
 rw[<- hzs] at htk hle ⊢
 obtain ⟨ds,hds⟩:∃ ds:List (fl1 o),ds.map (al5 o)=zs:=by
  clear htk hle hzs hzl
  induction zs with
  | nil=>exact ⟨[],rfl⟩
  | cons z zs ih=>
   obtain ⟨ds,h⟩:=ih fun y hy=>hzis y (List.mem_cons_of_mem _ hy)
   obtain ⟨k,rfl,hk⟩:=hzis z List.mem_cons_self;exact ⟨⟨k,hk⟩::ds,by rw[List.map_cons,h]; rfl⟩
 have hdl:ds.length=zs.length:=by rw[<- hds,List.length_map]
 obtain ⟨i0,_,hi0⟩:=cw3 his;have inst:Inhabited (fl1 o):=⟨⟨i0,hi0⟩⟩;have hWO:=ft7 o.wo cs hw;have hZ:=du2 (fun _ _=>o.co4) cs;have hCm:bp9 (al5 o) (fun x y:fl1 o=>cv8 cs o.cmp (al5 o x) (al5 o y)) 120 [] [.ab6 [.aa3 (fs.map fnC)],.ab6 [o.v]]:=⟨fok120.1,fun x y=>gu6 o hO fs cs hl hn hf x.2 y.2⟩
 have hrw:s.obj id=some (.row (ax8 (al5 o) (row.drop zs.length) ds.toArray)):=by
  rw[ho,ax8,ej4];have h2:ds.toArray.toList.map (fun x=>IV.int .i64 (al5 o x))=zs.map cl7:=by rw[<- hds,List.map_map]; rfl
  rw[h2,<- htk,List.take_append_drop]
 have hsz:ds.toArray.size=zs.length:=hdl;have hS:=fk5 (al5 o) (row.drop zs.length) hCm (jh7 o hr hWO) ds.toArray (by omega) hid2 hrw;rw[hsz] at hS;refine ac9 fok31 hS ?_;rintro v s3 ⟨rfl,d',hP,hU,hK⟩;refine ⟨hK.next,?_⟩;simp only[go_sem];obtain ⟨zs2,hz2⟩:∃ zs2,d'.toList.map (al5 o)=zs2:=⟨_,rfl⟩;have hd's:d'.size=zs.length:=by rw[hP.1]; exact hdl
 have hz2l:zs2.length=zs.length:=by rw[<- hz2,List.length_map,Array.length_toList,hd's]
 have hpm2:zs2.Perm zs:=by
  have h3:=hP.2.2;have e1:d'.extract 0 zs.length=d':=by rw[<- hd's]; exact Array.extract_size
  have e2:ds.toArray.extract 0 zs.length=ds.toArray:=by rw[<- hsz]; exact Array.extract_size
  rw[e1,e2] at h3;have h4:d'.toList.Perm ds:=h3;rw[<- hz2,<- hds];exact h4.map _
 have hup:zs2.Pairwise fun x y=>x=y\/cv8 cs o.cmp x y<0:=by
  refine List.pairwise_iff_getElem.2 fun i j hi hj hij=>?_
  have hi2:i<d'.size:=by rw[hd's]; omega
  have hj2:j<d'.size:=by rw[hd's]; omega
  have h4:=hU i j (Nat.zero_le _) hij (by omega);rw[getElem!_pos d' i hi2,getElem!_pos d' j hj2] at h4;have g1:zs2[i]=al5 o d'[i]:=by simp[<- hz2]
  have g2:zs2[j]=al5 o d'[j]:=by simp[<- hz2]
  rw[g1,g2];unfold ltOf at h4;have h5:¬ cv8 cs o.cmp (al5 o d'[j]) (al5 o d'[i])<0:=of_decide_eq_false h4;have n1:=hWO.neg (al5 o d'[i]) (al5 o d'[j]);by_cases e:cv8 cs o.cmp (al5 o d'[i]) (al5 o d'[j])=0
  ·exact .inl (hZ _ _ e)
  ·exact .inr (by omega)
 have hone:zs2=o.an6 cs i:=by
  unfold ak1.an6;rw[hzs] at hpm2;exact ft8 (S:=o.cm2) hWO hZ (fun x hx=>hr x (o.cn5 hx)) (o.bf1 i) hpm2 hup
 rw[<- hone]
 have hrow2:s3.obj id=some (.row (zs2.map cl7++row.drop zs.length)):=by
  rw[hK.row,ax8,ej4,<- hz2,List.map_map]; rfl
 have hfz:=do3 (zs:=zs2) hrow2 (by rw[List.take_append_of_le_length (by simp),List.take_of_length_le (by simp)]) (by simp);rw[hz2l] at hfz;exact hfz
end Go.Id.Tryz
set_option linter.all false
namespace Go.Id.Tryz
open Go Go.Id Go.Proofs Go.Shelf Go.Id.Md
set_option maxRecDepth 100000
set_option maxHeartbeats 1000000
theorem fz1 (o:ak1)(i:Int):iq4 o (53,[.ab6 [.int .i64 i]]) (ak1.bb9 i):=
 ⟨fok53.1,av3 (ah2 (.int _ _)),fun n m _ _=>gd9 i n m⟩
theorem fz2 (o:ak1):iq4 o (56,[.ab6 [o.v]]) o.bv8 :=
 ⟨fok56.1,av3 (ah2 (ag7 o)),fun n m _ _=>ge1 o n m⟩
theorem fz3 (o:ak1)(hO:OOK o){i:Nat}(hi:i<o.a.l.length):iq4 o (121,[.ab6 [o.v],.ab6 [.int .i64 i]]) (o.upF i):=
 ⟨fok121.1,ah6 (ah2 (ag7 o)) (ah2 (.int _ _)),fun n m h1 h2=>iq2 o hO hi h1 h2⟩
theorem hr7 (fs:List (Nat×List IV))(hb:∀ f∈fs,∀ c∈f.2,Bnd 0 c):Bnd 0 (.aa3 (fs.map fnC)):=.aa3 _ fun e he c hc=>by
 obtain ⟨f,hf,rfl⟩:=List.mem_map.1 he
 cases hc with
 | head=>exact .func _ _ _ (fun c hc=>by cases hc) (hb f hf)
 | tail _ h=>cases h
theorem eq1 (o:ak1){i:Int}(his:o.a.is i=false)(fs:List (Nat×List IV))(cs:List (Int->Int->Int))(hb:∀ f∈fs,∀ c∈f.2,Bnd 0 c) :
  PC Tryz.prog EE 52 [o.v,.int .i64 i,.aa3 (fs.map fnC)] (.aa3 ((o.an6 cs i).map Md.af3)):=by
 refine ag3 hE fok52 (nZ rfl) (aw5 (ag7 o) (.int _ _) (hr7 fs hb)) ?_;have olf:o.v.leaf=true:=rfl;have ocs:o.v.cs=[o.v]:=rfl;have hi1:=by3 o i
 have hpm:=o.ar9 cs i;rw[his] at hi1
 have hsu:o.a.aw7 i=[]:=by
  unfold ah7.aw7 ah7.inst;rw[his]; rfl
 rw[hsu] at hpm;rw[List.perm_nil.1 hpm];simp only[ic52,go_sem,olf,ocs]
 first|refine aa5 fok64 (hi1) ?_|refine aa6 (hi1) ?_
 simp only[go_sem];exact .bg7
structure gr3 (o:ak1):Prop where
 ok:OOK o
 rel:∀ n,o.a.is n=true->(o.a.pk n).evr.rel≠[]
 few:o.a.l.length<256
theorem gr4 (o:ak1)(hO:gr3 o)(i:Int):PC Tryz.prog EE 16 [o.v,.int .i64 i] (.aa3 ((o.an6 [ak1.bb9 i] i).map Md.af3)):=by
 have hw:=ek1 o hO.ok hO.rel hO.few i [(53,[.ab6 [.int .i64 i]])] [ak1.bb9 i] rfl (nZ rfl) (fun k h1 h2=>by
  match k,h1 with
  | 0,_=>exact fz1 o i) (o.dk8 hO.rel)
 refine ag3 hE fok16 (nZ rfl) (ah6 (ag7 o) (.int _ _)) ?_;simp only[List.map_cons,List.map_nil,fnC] at hw;simp only[ic16,go_sem]
 first|refine aa5 fok52 (hw) ?_|refine aa6 (hw) ?_
 simp only[go_sem];exact .keep _ (an9 _)
theorem fz4 (o:ak1)(hO:gr3 o)(i:Int):PC Tryz.prog EE 17 [o.v,.int .i64 i] (.aa3 ((o.an6 [o.upF i] i).map Md.af3)):=by
 have hw:PC Tryz.prog EE 52 [o.v,.int .i64 i,.aa3 ([(121,[.ab6 [o.v],.ab6 [.int .i64 i]])].map fnC)] (.aa3 ((o.an6 [o.upF i] i).map Md.af3)):=by
  cases his:o.a.is i with
  | false=>exact eq1 o his _ _ fun f hf=>by rw[List.mem_singleton] at hf; subst hf; exact ah6 (ah2 (ag7 o)) (ah2 (.int _ _))
  | true=>
   obtain ⟨k,rfl,hk⟩:=cw3 his
   exact ek1 o hO.ok hO.rel hO.few k [_] [_] rfl (nZ rfl) (fun j h1 h2=>by
    match j,h1 with
    | 0,_=>exact fz3 o hO.ok hk) (o.fu1 hO.rel)
 have hu:=iq3 o i;refine ag3 hE fok17 (nZ rfl) (ah6 (ag7 o) (.int _ _)) ?_;simp only[List.map_cons,List.map_nil,fnC] at hw;simp only[ic17,go_sem]
 first|refine aa5 fok55 (hu) ?_|refine aa6 (hu) ?_
 simp only[go_sem]
 first|refine aa5 fok52 (hw) ?_|refine aa6 (hw) ?_
 simp only[go_sem];exact .keep _ (an9 _)
theorem gr5 (o:ak1)(hO:gr3 o)(i:Int):PC Tryz.prog EE 18 [o.v,.int .i64 i] (.aa3 ((o.an6 [o.bv8,o.upF i] i).map Md.af3)):=by
 have hw:PC Tryz.prog EE 52 [o.v,.int .i64 i,.aa3 ([(56,[.ab6 [o.v]]),(121,[.ab6 [o.v],.ab6 [.int .i64 i]])].map fnC)] (.aa3 ((o.an6 [o.bv8,o.upF i] i).map Md.af3)):=by
  cases his:o.a.is i with
  | false=>
   exact eq1 o his _ _ fun f hf=>by
    simp only[List.mem_cons,List.not_mem_nil,or_false] at hf;rcases hf with rfl|rfl
    ·exact av3 (ah2 (ag7 o))
    ·exact ah6 (ah2 (ag7 o)) (ah2 (.int _ _))
  | true=>
   obtain ⟨k,rfl,hk⟩:=cw3 his
   exact ek1 o hO.ok hO.rel hO.few k [_,_] [_,_] rfl (nZ rfl) (fun j h1 h2=>by
    match j,h1 with
    | 0,_=>exact fz2 o
    | 1,_=>exact fz3 o hO.ok hk) (o.en4 hO.rel)
 have hu:=iq3 o i;have olf:o.v.leaf=true:=rfl;have ocs:o.v.cs=[o.v]:=rfl;refine ag3 hE fok18 (nZ rfl) (ah6 (ag7 o) (.int _ _)) ?_;simp only[List.map_cons,List.map_nil,fnC] at hw;simp only[ic18,go_sem,olf,ocs]
 first|refine aa5 fok55 (hu) ?_|refine aa6 (hu) ?_
 simp only[go_sem]
 first|refine aa5 fok52 (hw) ?_|refine aa6 (hw) ?_
 simp only[go_sem];exact .keep _ (an9 _)
theorem hr8 (p:Pool)(r:Req)(k:Nat){n:Int}(h:(ci8 p r k).a.is n=true):by4 p n=.tuple [.agg ((ci8 p r k).a.pk n).cs,.int .i64 0]:=by
 obtain ⟨m,rfl,hm⟩:=cw3 h
 have hm':m<p.rows.length:=by
  have:m<(ac8 p).length:=hm
  simpa [ac8] using this
 unfold by4;rw[if_pos ⟨by omega,by omega⟩,dy9 _ hm];have e:p.rows.getD (m:Int).toNat ⟨default,0,0⟩=p.rows[m]:=by simp[List.getD_eq_getElem?_getD,hm']
 have e2:(ci8 p r k).a.l[m]=p.rows[m].pkg:=by
  show (ac8 p)[m]'_=_;simp[ac8]
 rw[e,e2]
theorem iy7:∀ (ab5:List al1) (w n:Int),(lgP 800 ab5 w n).1<800->0<=n->n+(ag4 ab5:Nat)<2^40->(lgP 800 ab5 w n).2=n+(ag4 ab5:Nat):=by
 intro ab5
 induction ab5 with
 | nil=>intro w n _ _ _; simp[lgP,ag4]
 | cons r rs ih=>
  intro w n h h0 hb;have hs:ag4 (r::rs)=r.packages.length+ag4 rs:=by simp[ag4]
  rw[hs] at hb ⊢;by_cases hw:w<800
  ·have e:lgP 800 (r::rs) w n=lgP 800 rs (wr (wr (w+1)+szL r.packages 800 0)) (wr (n+r.packages.length)):=by rw[lgP,if_pos hw]
   rw[e] at h ⊢;have w1:wr (n+r.packages.length)=n+r.packages.length:=wrap64 (by omega) (by omega);rw[w1] at h ⊢;rw[ih _ _ h (by omega) (by omega)];omega
  ·have e:lgP 800 (r::rs) w n=(w,n):=by rw[lgP,if_neg hw]
   rw[e] at h;exact absurd h hw
theorem eh7 {ab5:List al1}{inst:List aa2}{r:Req}{p:Pool}(hl:by6 ab5 inst r=false)(hn:bq7 ab5 inst=.inl p):p.rows.length<=40:=by
 unfold by6 at hl;simp only[Bool.or_eq_false_iff,decide_eq_false_iff_not] at hl;obtain ⟨⟨⟨h1,h2⟩,_⟩,_⟩:=hl;have hp:=ch1 hn
 have hlen:p.rows.length=inst.length+ag4 ab5:=by
  have h3:(ac8 p).length=inst.length+ag4 ab5:=by
   rw[bw2 hn,List.length_append,List.length_flatMap]; rfl
  rw[<- h3]; simp[ac8]
 have:=iy7 ab5 (szL inst 800 0) inst.length (by omega) (by omega) (by have:=hp.2.1; omega);omega
structure WF (o:ak1) (i:Int) (A B C W:List Int):Prop where
 ea:o.an6 [ak1.bb9 i] i=A
 eb:o.an6 [o.upF i] i=B
 ec:o.an6 [o.bv8,o.upF i] i=C
 ew:o.a.aw7 i=W
 pa:A.Perm W
 pb:B.Perm W
 pc:C.Perm W
 nd:W.Nodup
 ia:∀ x∈A,o.a.is x=true
 ib:∀ x∈B,o.a.is x=true
 fst:o.a.inst i=true->∀ h:0<A.length,A[0]=i
 rst:o.a.inst i=true->∀ k,1<=k->∀ h:k+1<A.length,o.better A[k] A[k+1]=true
 up:∀ k,∀ h:k+1<B.length,(o.a.pk B[k+1]).name=(o.a.pk i).name->(o.a.pk B[k]).name=(o.a.pk i).name/\¬ ak8 (o.a.pk B[k]).evr (o.a.pk B[k+1]).evr<0
 syn:∀ k,∀ h:k+1<C.length,0<=o.a.p.az5 C[k+1]->¬ o.a.p.az5 C[k]<0
 ins:W≠[]->o.a.inst i=true
theorem fi4 (o:ak1)(hr:∀ n,o.a.is n=true->(o.a.pk n).evr.rel≠[])(i:Int):∃ A B C W,WF o i A B C W :=
 ⟨_,_,_,_,rfl,rfl,rfl,rfl,o.ar9 _ i,o.ar9 _ i,o.ar9 _ i,o.bf1 i,fun _ hx=>o.dk9 hr hx,fun _ hx=>o.dk9 hr hx,fun h=>o.cr6 hr h,fun h k=>o.fg1 hr h (k:=k),fun k=>o.hk8 hr (k:=k),fun k=>o.gm3 hr (k:=k),o.ff9⟩
def fz5 (l:List Int):List IV:=[.aa3 (l.map Md.af3)]
theorem dn9 (ab5:List al1)(inst:List aa2)(r:Req)(i:Int)(hI:gy5 ab5 inst)(hR:ei8 r) :
  PC Tryz.prog EE 4 [az6 ab5,bg8 inst,.agg r.cs,.int .i64 i] (.bool true):=by
 refine ix2 hE fok4 (nZ rfl) (du1 (bj4 ab5) (ax6 inst) (.agg _ (bj7 r)) (.int _ _)) ?_;have hL:=fj9 ab5 inst r (by have:=hI.r1; omega) (by have:=hI.i1; omega) hI.ro hI.po;have hO:=gd1 ab5 inst r hI hR;unfold gt8 at hO;simp only[ic4];refine ad1 (ae7 ?_);simp only[go_sem,ar1];refine ad1 (ae7 ?_);simp only[go_sem]
 first|refine aa5 fok12 (bp5) ?_|refine aa6 (bp5) ?_
 cases hlg:by6 ab5 inst r with
 | true=>
  rw[hlg] at hL;simp only[go_sem,bs9,bp1]
  first|refine aa5 fok13 (hL) ?_|refine aa6 (hL) ?_
  simp only[go_sem]
  first|refine aa5 fok12 (bp5) ?_|refine aa6 (bp5) ?_
  simp only[go_sem]
  exact ad9 rfl
 | false=>
 rw[hlg] at hL;simp only[go_sem,bs9,bp1]
 first|refine aa5 fok13 (hL) ?_|refine aa6 (hL) ?_
 simp only[go_sem];refine ad1 (ae7 ?_);simp only[go_sem,bs9,bp1]
 first|refine aa5 fok14 (hO) ?_|refine aa6 (hO) ?_
 cases hn:bq7 ab5 inst with
 | inr e=>
  simp only[go_sem];refine ad1 (ae7 ?_);simp only[go_sem]
  exact ad9 rfl
 | inl p=>
 by_cases he:¬ au3 r p.inst=0
 ·simp only[go_sem,he];refine ad1 (ae7 ?_);simp only[go_sem];exact ad9 rfl
 have he:=Decidable.not_not.1 he;simp only[go_sem,he];refine ad1 (ae7 ?_);simp only[go_sem];have hp256:p.rows.length<=256:=dl5 hn;have hp40:=eh7 hlg hn;have oo:=ook hI hn hR he inst.length;have hr:=gd2 (r:=r) (n:=inst.length) (ej8 hn);have hfit:=fz8 hI hn;obtain ⟨o,ho⟩:∃ o,o=ci8 p r inst.length:=⟨_,rfl⟩;have hpv:∀ n,o.a.is n=true->by4 p n=.tuple [.agg (o.a.pk n).cs,.int .i64 0]:=fun n h=>by rw[ho] at h ⊢; exact hr8 p r inst.length h
 have hpp:=fun n=>fj8 p n fun q hq=>(hfit q hq).1
 have hrp:=fun n=>bk1 p n
 rw[<- ho] at oo hr;have hav:(ah7.mk p r)=o.a:=by rw[ho]; rfl
 have hpo:p=o.a.p:=by rw[ho]; rfl
 have hlen:o.a.l.length=p.rows.length:=by rw[ho]; show (ac8 p).length=_; simp[ac8]
 rw[show (ci8 p r inst.length).v=o.v by rw[ho],hav];have hWO:gr3 o:=⟨oo,hr,by omega⟩;have hsu:=ei7 o.a i oo.a;have hst:=gr4 o hWO i;have hgo:=fz4 o hWO i;have hsy:=gr5 o hWO i;have hB:=fun x y=>bj9 o oo x y
 obtain ⟨A,B,C,W,F⟩:=fi4 o hr i
 have hW256:(o.a.aw7 i).length<256:=by
  unfold ah7.aw7;split
  ·exact Nat.lt_of_le_of_lt (az3 _ _) (by omega)
  ·show 0<256; decide
 rw[F.ea] at hst;rw[F.eb] at hgo;rw[F.ec] at hsy;rw[F.ew] at hsu hW256;have hWd:=F.nd;refine ad1 (ae7 ?_);simp only[go_sem]
 first|refine aa5 fok15 (hsu) ?_|refine aa6 (hsu) ?_
 simp only[go_sem];refine ad1 (ae7 ?_);simp only[go_sem]
 first|refine aa5 fok16 (hst) ?_|refine aa6 (hst) ?_
 simp only[go_sem]
 first|refine aa5 fok17 (hgo) ?_|refine aa6 (hgo) ?_
 simp only[go_sem]
 first|refine aa5 fok18 (hsy) ?_|refine aa6 (hsy) ?_
 simp only[go_sem];clear hsu hst hgo hsy hL hO
 have hall:∀ l∈[A,B,C],l.Perm W:=fun l hl=>by
  simp only[List.mem_cons,List.not_mem_nil,or_false] at hl;rcases hl with rfl|rfl|rfl
  ·exact F.pa
  ·exact F.pb
  ·exact F.pc
 refine ad1 (ad1 (ae7 ?_));simp only[go_sem];refine ba9 (ay1 (fun e f s=>e=.exit 0/\∃ rst:Frm,f=(3,.int .i64 i)::(9,o.v)::(11,p.v)::(13,.aa3 (W.map Md.af3))::(14,.aa3 (A.map Md.af3))::(15,.aa3 (B.map Md.af3))::(16,.aa3 (C.map Md.af3))::rst) (ab4 noT (fun m fr t=>fr=[(3,.int .i64 i),(9,o.v),(11,p.v),(13,.aa3 (W.map Md.af3)),(14,.aa3 (A.map Md.af3)),(15,.aa3 (B.map Md.af3)),(16,.aa3 (C.map Md.af3)),(66,.aa3 ([A,B,C].map fz5)),(67,.int .i64 3),(68,.int .i64 (m:Int))]) 3 rfl ?_) ?_)
 ·rintro m fr t hm rfl;by_cases hm3:m<3
  ·obtain ⟨L,hLm,_,_,hget,_⟩:=af5 [A,B,C] m hm3;have hLp:=hall L hLm;have hLl:L.length=W.length:=hLp.length_eq;have c1:(m:Int)<3:=by omega
   have c2:(0:Int)<=(m:Int):=by omega
   have c3:(m:Int)<([A,B,C].length:Nat):=by show (m:Int)<3; omega
   have w1:=ad4 (i:=m) (by omega);have hgr:=hget fz5;generalize [A,B,C]=ABC at *;simp only[go_sem,c1,c2,c3,hgr,fz5,hLl];refine ab4 noT (fun k fr t=>fr=[(3,.int .i64 i),(9,o.v),(11,p.v),(13,.aa3 (W.map Md.af3)),(14,.aa3 (A.map Md.af3)),(15,.aa3 (B.map Md.af3)),(16,.aa3 (C.map Md.af3)),(18,.aa3 (L.map Md.af3)),(19,.int .i64 (k:Int)),(66,.aa3 (ABC.map fz5)),(67,.int .i64 3),(68,.int .i64 (m:Int))]) W.length rfl ?_;rintro k fr t hk rfl;by_cases hkW:k<W.length
   ·have d1:(k:Int)<W.length:=by omega
    have d2:(0:Int)<=(k:Int):=by omega
    have hgk:(W.map Md.af3).getD k []=Md.af3 W[k]:=by simp[List.getD_eq_getElem?_getD,hkW]
    have w2:=ad4 (i:=k) (by omega);have hone:=gm2 hLp hWd (List.getElem_mem hkW);generalize W[k]=x at *;simp only[go_sem,d1];refine ab4 noT (fun j fr t=>fr=[(3,.int .i64 i),(9,o.v),(11,p.v),(13,.aa3 (W.map Md.af3)),(14,.aa3 (A.map Md.af3)),(15,.aa3 (B.map Md.af3)),(16,.aa3 (C.map Md.af3)),(18,.aa3 (L.map Md.af3)),(19,.int .i64 (k:Int)),(20,.int .i64 (du3 (L.take j) x:Int)),(21,.int .i64 (j:Int)),(66,.aa3 (ABC.map fz5)),(67,.int .i64 3),(68,.int .i64 (m:Int))]) L.length rfl ?_;rintro j fr t hj rfl;by_cases hjL:j<L.length
    ·have f1:(j:Int)<L.length:=by omega
     have f1':(j:Int)<W.length:=by omega
     have f2:(0:Int)<=(j:Int):=by omega
     have hgj:(L.map Md.af3).getD j []=Md.af3 L[j]:=by simp[List.getD_eq_getElem?_getD,hjL]
     have w3:=ad4 (i:=j) (by omega);have w4:=ad4 (i:=du3 (L.take j) x) (by have:=hk6 (L.take j) x; rw[List.length_take] at this; omega)
     have htk:du3 (L.take (j+1)) x=du3 (L.take j) x+if L[j]=x then 1 else 0:=by
      rw[List.take_add_one,List.getElem?_eq_getElem hjL]; exact ft9 _ _ _
     by_cases hxj:L[j]=x
     ·rw[if_pos hxj] at htk;simp only[go_sem,f1,f1',f2,d1,d2,hgj,hgk,Md.af3,hxj,w3,w4,hLl];exact ⟨by omega,by rw[htk]⟩
     ·have htk:du3 (L.take (j+1)) x=du3 (L.take j) x:=by rw[htk,if_neg hxj]; rfl
      simp only[go_sem,f1,f1',f2,d1,d2,hgj,hgk,Md.af3,hxj,w3,hLl];exact ⟨by omega,by rw[htk]⟩
    ·have f1:¬ (j:Int)<L.length:=by omega
     have f1':¬ (j:Int)<W.length:=by omega
     have ej:j=L.length:=by omega
     subst ej;have f3:¬ ((W.length:Nat):Int)<W.length:=by omega
     rw[List.take_length,hone];simp only[go_sem,f3,hLl,w2];exact hkW
   ·have d1:¬ (k:Int)<W.length:=by omega
    simp only[go_sem,d1,w1];exact hm3
  ·have c1:¬ (m:Int)<3:=by omega
   simp only[go_sem,c1];exact ⟨_,rfl⟩
 rintro e f t ⟨rfl,rst,rfl⟩;simp only[go_sem];refine ad1 (ae7 ?_);by_cases hW0:W=[]
 ·subst hW0;simp only[go_sem,List.length_nil,List.map_nil];exact ad9 rfl
 have hW1:0<W.length:=List.length_pos_iff.2 hW0;have hin:=F.ins hW0;have hAl:A.length=W.length:=F.pa.length_eq;have hBl:B.length=W.length:=F.pb.length_eq;have hCl:C.length=W.length:=F.pc.length_eq;have e1:¬ (W.length:Int)=0:=by omega
 have e2:(0:Int)<W.length:=by omega
 have e3:(0:Int)<A.length:=by omega
 have hA0:(A.map Md.af3).getD 0 []=Md.af3 i:=by
  have:=F.fst hin (by omega);simp[List.getD_eq_getElem?_getD,show 0<A.length by omega,this]
 simp only[go_sem,e1];refine ad1 (ae7 ?_);simp only[go_sem,e2,e3,hAl,hA0,Md.af3]
 have hii:o.a.is i=true:=by
  unfold ah7.inst at hin;rw[Bool.and_eq_true] at hin; exact hin.1
 have hown:=hpp i;rw[hpv i hii] at hown;refine ad1 (ae7 ?_);simp only[go_sem]
 first|refine aa5 fok19 (hown) ?_|refine aa6 (hown) ?_
 simp only[go_sem,ag1,ag6,af1];refine ad1 (ae7 ?_);simp only[go_sem];refine ad1 (ad1 (ae7 ?_));simp only[go_sem];generalize hT:Store.mk (t.next+1) _=T;have hTn:T.next=t.next+1:=by rw[<- hT]
 have hTb:T.obj t.next=some (.cells (o.a.pk i).cs):=by rw[<- hT]; simp only[aa4,if_true]
 clear hT;refine ba9 (ay1 (fun e f s=>e=.exit 6) (er9 (fun k fr u=>fr=[(9,o.v),(11,p.v),(13,.aa3 (W.map Md.af3)),(14,.aa3 (A.map Md.af3)),(15,.aa3 (B.map Md.af3)),(16,.aa3 (C.map Md.af3)),(22,.ptr t.next 0),(24,.int .i64 ((k+1:Nat):Int))]/\t.next<u.next/\u.obj t.next=some (.cells (o.a.pk i).cs)) W.length ⟨rfl,by omega,hTb⟩ ?_) ?_)
 ·rintro k fr u hk ⟨rfl,hun,hub⟩;refine ad1 (ae7 ?_);by_cases hkW:k+1<W.length
  ·have d1:((k+1:Nat):Int)<W.length:=by omega
   have d2:(0:Int)<=((k+1:Nat):Int):=by omega
   have d3:(0:Int)<=(k:Int):=by omega
   have d4:(k:Int)<W.length:=by omega
   have w0:IntKind.i64.wrap (((k+1:Nat):Int)-1)=(k:Int):=by rw[wrap64 (by omega) (by omega)]; omega
   have w1:=ad4 (i:=k+1) (by omega);have gA:∀ j (h:j<A.length),(A.map Md.af3).getD j []=Md.af3 A[j]:=fun j h=>by simp[List.getD_eq_getElem?_getD,h]
   have gB:∀ j (h:j<B.length),(B.map Md.af3).getD j []=Md.af3 B[j]:=fun j h=>by simp[List.getD_eq_getElem?_getD,h]
   have gC:∀ j (h:j<C.length),(C.map Md.af3).getD j []=Md.af3 C[j]:=fun j h=>by simp[List.getD_eq_getElem?_getD,h]
   have hx:=hpp B[k];have hy:=hpp B[k+1];rw[hpv _ (F.ib _ (List.getElem_mem (by omega)))] at hx hy;have hup:=F.up k (by omega);have hsy:=F.syn k (by omega);have hrs:=F.rst hin k
   have hsm:∀ n,o.a.is n=true->EVR.small (o.a.pk n).evr:=fun n h=>by
    obtain ⟨m,rfl,hm⟩:=cw3 h;rw[dy9 _ hm];exact (oo.a.small _ (List.getElem_mem hm)).1
   have hec:=at6 (o.a.pk B[k]).evr (o.a.pk B[k+1]).evr (hsm _ (F.ib _ (List.getElem_mem (by omega)))) (hsm _ (F.ib _ (List.getElem_mem (by omega))));have hr1:=hrp C[k];have hr2:=hrp C[k+1];have hbt:=hB A[k] A[k+1];have gB1:=gB k (by omega);have gB2:=gB (k+1) (by omega);have gA1:=gA k (by omega);have gA2:=gA (k+1) (by omega);have gC1:=gC k (by omega);have gC2:=gC (k+1) (by omega);simp only[go_sem,d1];refine ad1 (ba9 (ad1 (ae7 ?_)));simp only[go_sem,d1,d2,d3,d4,hBl,w0,gB1,Md.af3]
   first|refine aa5 fok19 (hx) ?_|refine aa6 (hx) ?_
   simp only[go_sem,ag1,ag6,af1];refine ad1 (ae7 ?_);simp only[go_sem,d1,d2,d3,d4,hBl,w0,gB2,Md.af3]
   first|refine aa5 fok19 (hy) ?_|refine aa6 (hy) ?_
   simp only[go_sem,ag1,ag6,af1];generalize hZ:Store.put _ (u.next+1) (ak3.cells (o.a.pk B[k+1]).cs)=Z;have hZn:Z.next=u.next+1+1:=by rw[<- hZ]; rfl
   have z0:Z.obj t.next=some (.cells (o.a.pk i).cs):=by
    have e1:¬ t.next=u.next:=by omega
    have e2:¬ t.next=u.next+1:=by omega
    rw[<- hZ]; simp only[aa4,e1,e2,if_false]; exact hub
   have z1:Z.obj u.next=some (.cells (o.a.pk B[k]).cs):=by
    have e1:¬ u.next=u.next+1:=by omega
    rw[<- hZ]; simp only[aa4,e1,if_false,if_true]
   have z2:Z.obj (u.next+1)=some (.cells (o.a.pk B[k+1]).cs):=by rw[<- hZ]; simp only[aa4,if_true]
   clear hZ hx hy hub;have hfin:t.next<Z.next+100:=by omega
   generalize o.a.pk B[k]=x at *;generalize o.a.pk B[k+1]=y at *;generalize o.a.pk i=q at *;have x0:x.cs.head? = some (.str x.name):=rfl;have y0:y.cs.head? = some (.str y.name):=rfl;have q0:q.cs.head? = some (.str q.name):=rfl;have x1:(x.cs.drop 1).take 3=x.evr.cs:=rfl;have y1:(y.cs.drop 1).take 3=y.evr.cs:=rfl;have x2:(x.cs.drop 1).length=14:=rfl;have y2:(y.cs.drop 1).length=14:=rfl;have k1:(1:Int)<((k+1:Nat):Int)↔1<=k:=by omega
   refine ae7 ?_;by_cases hn:y.name=q.name
   case' pos=>
    obtain ⟨h1,h2⟩:=hup hn;simp only[go_sem,z0,z1,z2,x0,y0,q0,hn,h1,x1,y1,x2,y2]
    first|refine aa5 fok20 (hec) ?_|refine aa6 (hec) ?_
    simp only[go_sem,h2,d1,d2,d3,d4,hCl,w0,gC2,Md.af3]
   case' neg=>
    simp only[go_sem,z0,z1,z2,x0,y0,q0,hn,d1,d2,d3,d4,hCl,w0,gC2,Md.af3]
   all_goals
    first|refine aa5 fok21 (hr2) ?_|refine aa6 (hr2) ?_
    by_cases hc1:0<=o.a.p.az5 C[k+1]
    case' pos=>
     have hc2:=hsy hc1;rw[hpo] at *;simp only[go_sem,hc1,d1,d2,d3,d4,hCl,w0,gC1,Md.af3]
     first|refine aa5 fok21 (hr1) ?_|refine aa6 (hr1) ?_
     simp only[go_sem,hc2]
    case' neg=>
     rw[hpo] at *;simp only[go_sem,hc1]
    all_goals
     by_cases hk1:1<=k
     case' pos=>
      have hbb:=hrs hk1 (by omega);rw[hbb] at hbt;have k2:(1:Int)<((k+1:Nat):Int):=by omega
      simp only[go_sem,k2,d1,d2,d3,d4,hAl,w0,gA1,gA2,Md.af3]
      first|refine aa5 fok22 (hbt) ?_|refine aa6 (hbt) ?_
      simp only[go_sem]
     case' neg=>
      have k2:¬ (1:Int)<((k+1:Nat):Int):=by omega
      simp only[go_sem,k2]
     all_goals
      refine ae7 ?_;simp only[go_sem,w1]
      first|exact ⟨by omega,rfl,by omega,z0⟩|exact ⟨by omega,by omega,z0⟩
  ·have d1:¬ ((k+1:Nat):Int)<W.length:=by omega
   simp only[go_sem,d1]
 rintro e f u rfl;simp only[go_sem];refine ae7 ?_;simp only[go_sem];exact ad9 rfl
open Go Go.Id Go.Proofs Go.Id.Md
end Go.Id.Tryz
set_option linter.all false
namespace Go.Id.Tryz
open Go Go.Id Go.Proofs Go.Id.Md
set_option maxRecDepth 100000
variable {H:Type} {enc:TypeId×Value->H} {w:World} {base:Nat} {sp:Nat->Bool} {held:Bool}
abbrev Rd (enc:TypeId×Value->H)(w:World)(base:Nat)(sp:Nat->Bool)(held:Bool):=Rdg enc Tryz.prog w base sp held
theorem fw3 {n:Nat}{d:DataW H}(h:Rd enc w base sp held n 53 d)(hw:WT Tryz.prog 53 d):∃ e:EVR,e.fit/\∀ m,n<=m->dv Tryz.prog m 53 d=some e.cs:=by
 obtain ⟨n',ds,rfl,rfl,hl,hf⟩:=as9 Tryz.underlying53 h hw
 match ds,hl with
 | [d0,d1,d2],_=>
  obtain ⟨r0,w0⟩:=hf 0 _ d0 rfl rfl;obtain ⟨r1,w1⟩:=hf 1 _ d1 rfl rfl;obtain ⟨r2,w2⟩:=hf 2 _ d2 rfl rfl;obtain ⟨z,_,_,e0⟩:=bg1 Tryz.underlying3 r0;obtain ⟨s1,l1,e1⟩:=cr3 Tryz.underlying9 r1 w1;obtain ⟨s2,l2,e2⟩:=cr3 Tryz.underlying9 r2 w2;refine ⟨⟨z,s1,s2⟩,⟨l1,l2⟩,fun m hm=>?_⟩
  cases m with
  | zero=>omega
  | succ m=>
   have c3:Tryz.prog.cellsOf 3=1:=by kernel_rfl
   have c9:Tryz.prog.cellsOf 9=1:=by kernel_rfl
   have ct:Tryz.prog.cellsOf 53=3:=by kernel_rfl
   simp only[dv,Tryz.underlying53,List.map_cons,List.map_nil,dvF,e0 m (by omega),e1 m (by omega),e2 m (by omega),List.length_cons,List.length_nil,c3,c9,ct,List.cons_append,List.nil_append,List.append_nil,Nat.reduceAdd,↓reduceIte];rfl
theorem im3 {z:Int}(h:(Lit.int .u8 z).wf=true):0<=z/\z<256:=by
 simp only[Lit.wf,Bool.and_eq_true,decide_eq_true_eq] at h;have e1:IntKind.u8.min=0:=rfl;have e2:IntKind.u8.max=255:=rfl;omega
theorem ho8:Tryz.prog.cellsOf 3=1:=by kernel_rfl
theorem ho9:Tryz.prog.cellsOf 5=1:=by kernel_rfl
theorem gp4:Tryz.prog.cellsOf 9=1:=by kernel_rfl
theorem hp4:Tryz.prog.cellsOf 53=3:=by kernel_rfl
theorem fw4:Tryz.prog.cellsOf 117=5:=by kernel_rfl
theorem fw5:Tryz.prog.cellsOf 119=7:=by kernel_rfl
theorem im4:Tryz.prog.cellsOf 58=15:=by kernel_rfl
theorem gy2:Tryz.prog.cellsOf 69=2:=by kernel_rfl
theorem im5:Tryz.prog.cellsOf 54=1:=by kernel_rfl
theorem ep1:Tryz.prog.cellsOf 55=1:=by kernel_rfl
theorem im6:Tryz.prog.cellsOf 56=1:=by kernel_rfl
theorem im7:Tryz.prog.cellsOf 23=1:=by kernel_rfl
theorem gy3 {n:Nat}{d:DataW H}(h:Rd enc w base sp held n 117 d)(hw:WT Tryz.prog 117 d):∃ e:Dep,e.fit/\∀ m,n<=m->dv Tryz.prog m 117 d=some e.cs:=by
 obtain ⟨n',ds,rfl,rfl,hl,hf⟩:=as9 Tryz.underlying117 h hw
 match ds,hl with
 | [d0,d1,d2],_=>
  obtain ⟨r0,w0⟩:=hf 0 _ d0 rfl rfl;obtain ⟨r1,w1⟩:=hf 1 _ d1 rfl rfl;obtain ⟨r2,w2⟩:=hf 2 _ d2 rfl rfl;obtain ⟨s0,l0,e0⟩:=cr3 Tryz.underlying9 r0 w0;obtain ⟨z,_,_,e1⟩:=bg1 Tryz.underlying5 r1;obtain ⟨e,l2,e2⟩:=fw3 r2 w2;refine ⟨⟨s0,z,e⟩,⟨l0,l2⟩,fun m hm=>?_⟩
  cases m with
  | zero=>omega
  | succ m=>
   simp only[dv,Tryz.underlying117,List.map_cons,List.map_nil,dvF,e0 m (by omega),e1 m (by omega),e2 m (by omega),EVR.cs,List.length_cons,List.length_nil,gp4,ho9,hp4,fw4,List.cons_append,List.nil_append,List.append_nil,Nat.reduceAdd,↓reduceIte];rfl
theorem hp5:∀ (n:Nat) (d:DataW H),Rd enc w base sp held n 119 d->WT Tryz.prog 119 d->∃ r:aa8,r.ok/\∀ m,n<=m->dv Tryz.prog m 119 d=some r.cs:=by
 intro n
 induction n using Nat.strongRecOn with
 | ind n ih=>
  intro d h hw;obtain ⟨n',ds,rfl,rfl,hl,hf⟩:=as9 Tryz.underlying119 h hw
  match ds,hl with
  | [d0,d1,d2],_=>
   obtain ⟨r0,w0⟩:=hf 0 _ d0 rfl rfl;obtain ⟨r1,w1⟩:=hf 1 _ d1 rfl rfl;obtain ⟨r2,w2⟩:=hf 2 _ d2 rfl rfl;obtain ⟨z,_,hz,e0⟩:=bg1 Tryz.underlying5 r0;obtain ⟨e,l1,e1⟩:=gy3 r1 w1;obtain ⟨l,k1,k2,e2⟩:=bb1 aa8.cs aa8.ok Tryz.underlying55 fw5 (by decide) (by decide +kernel) (fun r=>by rw[aa8.aq5]; rfl) (fun m d' hm hr hw'=>ih m (by omega) d' hr hw') r2 w2;have hz':=im3 hz;refine ⟨.mk z e l,aa8.hl8.2 ⟨hz'.1,hz'.2,l1,k1,k2⟩,fun m hm=>?_⟩
   cases m with
   | zero=>omega
   | succ m=>
    simp only[dv,Tryz.underlying119,List.map_cons,List.map_nil,dvF,e0 m (by omega),e1 m (by omega),e2 m (by omega),Dep.cs,List.length_cons,List.length_nil,ep1,ho9,fw4,fw5,List.cons_append,List.nil_append,List.append_nil,Nat.reduceAdd,↓reduceIte];rw[aa8.aq5];rfl
theorem fw6 {n:Nat}{d:DataW H}(h:Rd enc w base sp held n 54 d)(hw:WT Tryz.prog 54 d):∃ l:List Dep,l.length<2^62/\(∀ a∈l,a.fit)/\∀ m,n<=m->dv Tryz.prog m 54 d=some [deps l]:=
 bb1 Dep.cs Dep.fit Tryz.underlying54 fw4 (by decide) (by decide +kernel) (fun _=>rfl) (fun _ _ _ hr hw'=>gy3 hr hw') h hw
theorem be2 {n:Nat}{d:DataW H}(h:Rd enc w base sp held n 55 d)(hw:WT Tryz.prog 55 d):∃ l:List aa8,l.length<2^62/\(∀ a∈l,a.ok)/\∀ m,n<=m->dv Tryz.prog m 55 d=some [ae8 l]:=
 bb1 aa8.cs aa8.ok Tryz.underlying55 fw5 (by decide) (by decide +kernel) (fun r=>by rw[aa8.aq5]; rfl) (fun m d' _ hr hw'=>hp5 m d' hr hw') h hw
theorem hp9 {n:Nat}{d:DataW H}(h:Rd enc w base sp held n 56 d)(hw:WT Tryz.prog 56 d):∃ l:List Str,l.length<2^62/\(∀ a∈l,a.length<2^62)/\∀ m,n<=m->dv Tryz.prog m 56 d=some [strs l]:=
 bb1 bt3 (fun s:Str=>s.length<2^62) Tryz.underlying56 gp4 (by decide) (by decide +kernel) (fun _=>rfl) (fun _ _ _ hr hw'=>cr3 Tryz.underlying9 hr hw') h hw
theorem im8 {n:Nat}{d:DataW H}(h:Rd enc w base sp held n 58 d)(hw:WT Tryz.prog 58 d):∃ p:aa2,p.Ok/\∀ m,n<=m->dv Tryz.prog m 58 d=some p.cs:=by
 obtain ⟨n',ds,rfl,rfl,hl,hf⟩:=as9 Tryz.underlying58 h hw
 match ds,hl with
 | [d0,d1,d2,d3,d4,d5,d6,d7,d8,d9,d10,d11,d12],_=>
  obtain ⟨r0,w0⟩:=hf 0 _ d0 rfl rfl;obtain ⟨r1,w1⟩:=hf 1 _ d1 rfl rfl;obtain ⟨r2,w2⟩:=hf 2 _ d2 rfl rfl;obtain ⟨r3,w3⟩:=hf 3 _ d3 rfl rfl;obtain ⟨r4,w4⟩:=hf 4 _ d4 rfl rfl;obtain ⟨r5,w5⟩:=hf 5 _ d5 rfl rfl;obtain ⟨r6,w6⟩:=hf 6 _ d6 rfl rfl;obtain ⟨r7,w7⟩:=hf 7 _ d7 rfl rfl;obtain ⟨r8,w8⟩:=hf 8 _ d8 rfl rfl;obtain ⟨r9,w9⟩:=hf 9 _ d9 rfl rfl;obtain ⟨r10,w10⟩:=hf 10 _ d10 rfl rfl;obtain ⟨r11,w11⟩:=hf 11 _ d11 rfl rfl;obtain ⟨r12,w12⟩:=hf 12 _ d12 rfl rfl;obtain ⟨x0,l0,e0⟩:=cr3 Tryz.underlying9 r0 w0;obtain ⟨x1,l1,e1⟩:=fw3 r1 w1;obtain ⟨x2,_,_,e2⟩:=bg1 Tryz.underlying5 r2;obtain ⟨x3,l3,e3⟩:=cr3 Tryz.underlying9 r3 w3;obtain ⟨x4,l4,k4,e4⟩:=fw6 r4 w4;obtain ⟨x5,l5,k5,e5⟩:=be2 r5 w5;obtain ⟨x6,l6,k6,e6⟩:=be2 r6 w6;obtain ⟨x7,l7,k7,e7⟩:=fw6 r7 w7;obtain ⟨x8,l8,k8,e8⟩:=be2 r8 w8;obtain ⟨x9,l9,k9,e9⟩:=be2 r9 w9;obtain ⟨x10,l10,k10,e10⟩:=be2 r10 w10;obtain ⟨x11,l11,k11,e11⟩:=be2 r11 w11;obtain ⟨x12,l12,k12,e12⟩:=hp9 r12 w12;refine ⟨⟨x0,x1,x2,x3,x4,x5,x6,x7,x8,x9,x10,x11,x12⟩,⟨l0,l3,l1,⟨l4,k4⟩,⟨l7,k7⟩,⟨l12,k12⟩,?_⟩,fun m hm=>?_⟩
  ·intro x hx;simp only[aa2.rows,List.mem_cons,List.not_mem_nil,or_false] at hx;rcases hx with rfl|rfl|rfl|rfl|rfl|rfl
   ·exact ⟨l5,k5⟩
   ·exact ⟨l6,k6⟩
   ·exact ⟨l8,k8⟩
   ·exact ⟨l9,k9⟩
   ·exact ⟨l10,k10⟩
   ·exact ⟨l11,k11⟩
  cases m with
  | zero=>omega
  | succ m=>
   simp only[dv,Tryz.underlying58,List.map_cons,List.map_nil,dvF,e0 m (by omega),e1 m (by omega),e2 m (by omega),e3 m (by omega),e4 m (by omega),e5 m (by omega),e6 m (by omega),e7 m (by omega),e8 m (by omega),e9 m (by omega),e10 m (by omega),e11 m (by omega),e12 m (by omega),EVR.cs,List.length_cons,List.length_nil,gp4,ho9,hp4,im5,ep1,im6,im4,List.cons_append,List.nil_append,List.append_nil,Nat.reduceAdd,↓reduceIte];rfl
theorem fw7 {n:Nat}{d:DataW H}(h:Rd enc w base sp held n 23 d)(hw:WT Tryz.prog 23 d):∃ l:List aa2,l.length<2^62/\(∀ a∈l,a.Ok)/\∀ m,n<=m->dv Tryz.prog m 23 d=some [.aa3 (l.map aa2.cs)]:=
 bb1 aa2.cs aa2.Ok Tryz.underlying23 im4 (by decide) (by decide +kernel) (fun _=>rfl) (fun _ _ _ hr hw'=>im8 hr hw') h hw
theorem hq5 {n:Nat}{d:DataW H}(h:Rd enc w base sp held n 69 d)(hw:WT Tryz.prog 69 d):∃ r:al1,al1.Ok r/\∀ m,n<=m->dv Tryz.prog m 69 d=some r.cs:=by
 obtain ⟨n',ds,rfl,rfl,hl,hf⟩:=as9 Tryz.underlying69 h hw
 match ds,hl with
 | [d0,d1],_=>
  obtain ⟨r0,w0⟩:=hf 0 _ d0 rfl rfl;obtain ⟨r1,w1⟩:=hf 1 _ d1 rfl rfl;obtain ⟨z,_,_,e0⟩:=bg1 Tryz.underlying3 r0;obtain ⟨l,k1,k2,e1⟩:=fw7 r1 w1;refine ⟨⟨z,l⟩,⟨k1,k2⟩,fun m hm=>?_⟩
  cases m with
  | zero=>omega
  | succ m=>
   simp only[dv,Tryz.underlying69,List.map_cons,List.map_nil,dvF,e0 m (by omega),e1 m (by omega),List.length_cons,List.length_nil,ho8,im7,gy2,List.cons_append,List.nil_append,List.append_nil,Nat.reduceAdd,↓reduceIte];rfl
theorem gp5 {n:Nat}{d:DataW H}(h:Rd enc w base sp held n 22 d)(hw:WT Tryz.prog 22 d):∃ l:List al1,l.length<2^62/\(∀ a∈l,al1.Ok a)/\∀ m,n<=m->dv Tryz.prog m 22 d=some [.aa3 (l.map al1.cs)]:=
 bb1 al1.cs al1.Ok Tryz.underlying22 gy2 (by decide) (by decide +kernel) (fun _=>rfl) (fun _ _ _ hr hw'=>hq5 hr hw') h hw
end Go.Id.Tryz
set_option linter.all false
namespace Go.Id
open Go Go.Id
mutual
def isz:IV->Nat
 | .str s=>s.length+1
 | .aa3 es=>ck9 es+1
 | _=>1
def bc2:List IV->Nat
 | []=>0
 | c::cs=>isz c+bc2 cs
def ck9:List (List IV)->Nat
 | []=>0
 | e::es=>bc2 e+ck9 es
end
theorem ek2 (a b:List IV):bc2 (a++b)=bc2 a+bc2 b:=by
 induction a with
 | nil=>simp[bc2]
 | cons x a ih=>simp only[List.cons_append,bc2,ih]; omega
theorem bp7 {α:Type}(f:α->List IV):∀ (l:List α),∀ a∈l,bc2 (f a)<=ck9 (l.map f):=by
 intro l
 induction l with
 | nil=>intro a h; cases h
 | cons x l ih=>
  intro a h;simp only[List.map_cons,ck9];rcases List.mem_cons.1 h with rfl|h
  ·omega
  ·have:=ih a h; omega
theorem au1 {α:Type}(f:α->List IV)(hf:∀ a,1<=bc2 (f a)):∀ (l:List α),l.length<=ck9 (l.map f):=by
 intro l
 induction l with
 | nil=>simp
 | cons x l ih=>
  simp only[List.map_cons,ck9,List.length_cons];have:=hf x;omega
namespace Md
theorem Dep.szs (d:Dep):bc2 d.cs=d.name.length+d.evr.ver.length+d.evr.rel.length+5:=by
 simp only[Dep.cs,bc2,isz]; omega
theorem aa8.szs (r:aa8):bc2 r.cs=r.dep.name.length+r.dep.evr.ver.length+r.dep.evr.rel.length+ck9 (r.args.map aa8.cs)+7:=by
 rw[aa8.aq5]; simp only[bc2,isz]; omega
theorem aa2.szs (p:aa2):bc2 p.cs=p.name.length+p.evr.ver.length+p.evr.rel.length+p.vendor.length+ck9 (p.provides.map Dep.cs)+ck9 (p.requires.map aa8.cs)+ck9 (p.conflicts.map aa8.cs)+ck9 (p.ab2.map Dep.cs)+ck9 (p.ac3.map aa8.cs)+ck9 (p.ac1.map aa8.cs)+ck9 (p.suggests.map aa8.cs)+ck9 (p.ac5.map aa8.cs)+ck9 (p.files.map bt3)+15:=by
 simp only[aa2.cs,bc2,isz]; omega
theorem al1.szs (r:al1):bc2 r.cs=ck9 (r.packages.map aa2.cs)+2:=by
 simp only[al1.cs,bc2,isz]; omega
theorem fk6 (r:aa8):r.count<=bc2 r.cs:=by
 induction r using aa8.ind with
 | h k d xs ih=>
  rw[aa8.szs]
  have:∀ ys:List aa8,(∀ y∈ys,y∈xs)->aa8.counts ys<=ck9 (ys.map aa8.cs):=by
   intro ys
   induction ys with
   | nil=>intro _; simp[aa8.counts]
   | cons y ys ih2=>
    intro h;have h1:=ih y (h y (List.mem_cons_self ..));have h2:=ih2 fun z hz=>h z (List.mem_cons_of_mem _ hz)
    simp only[aa8.counts,List.map_cons,ck9];omega
  have:=this xs fun y h=>h
  simp only[aa8.count,aa8.args];omega
theorem gu8 (r:aa8):r.ok->bc2 r.cs<2^31->r.fit:=by
 induction r using aa8.ind with
 | h k d xs ih=>
  intro ho hs;obtain ⟨a,b,c,e,f⟩:=aa8.hl8.1 ho;rw[aa8.szs] at hs;simp only[aa8.args] at hs;have hl:=au1 aa8.cs (fun r=>by rw[aa8.szs]; omega) xs;refine aa8.cr4.2 ⟨a,b,c,by omega,fun r hr=>ih r hr (f r hr) ?_⟩;have:=bp7 aa8.cs xs r hr;omega
theorem ge2 {p:aa2}(h:p.Ok)(hs:bc2 p.cs<2^31):p.Fit:=by
 rw[aa2.szs] at hs;have l1:=au1 Dep.cs (fun r=>by rw[Dep.szs]; omega) p.provides;have l2:=au1 Dep.cs (fun r=>by rw[Dep.szs]; omega) p.ab2;have l3:=au1 bt3 (fun r=>by simp only[bt3,bc2,isz]; omega) p.files
 have hr:∀ x∈p.rows,ck9 (x.2.map aa8.cs)<2^31:=by
  intro x hx;simp only[aa2.rows,List.mem_cons,List.not_mem_nil,or_false] at hx;rcases hx with rfl|rfl|rfl|rfl|rfl|rfl<;>simp only[]<;>omega
 exact {
  name:=h.name
  evr:=h.evr
  av4:=⟨by omega,h.av4.2⟩
  obs:=⟨by omega,h.obs.2⟩
  files:=⟨by omega,h.files.2⟩
  rich:=fun x hx=>by
   have h1:=hr x hx;have h2:=au1 aa8.cs (fun r=>by rw[aa8.szs]; omega) x.2;refine ⟨by omega,fun r hr'=>?_⟩;have h3:=bp7 aa8.cs x.2 r hr';have h4:=fk6 r;exact ⟨gu8 r ((h.rich x hx).2 r hr') (by omega),by omega⟩ }
theorem ge3 (ab5:List al1):ag4 ab5<=ck9 (ab5.map al1.cs):=by
 induction ab5 with
 | nil=>simp[ag4]
 | cons r rs ih=>
  have h2:=au1 aa2.cs (fun r=>by rw[aa2.szs]; omega) r.packages;have h3:=al1.szs r;simp only[ag4,List.map_cons,List.sum_cons,ck9] at ih ⊢;omega
end Md
end Go.Id
