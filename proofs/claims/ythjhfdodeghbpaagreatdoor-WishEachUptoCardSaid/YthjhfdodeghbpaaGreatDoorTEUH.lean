/- The library's sort by a function,walked: the pivot; patterns broken. Conditions: what is compared is answered by a pure function; at most 255 numbers. -/
import Derived.Test.YthjhfdodeghbpaaGreatDoorTEUA
import Derived.Sort.LotD1
import Derived.Sort.LotC
import Derived.Test.YthjhfdodeghbpaaGreatDoorFwZb
import Derived.Sort.LotD3
import Derived.Sort.AssemblyPlain
import Derived.Test.YthjhfdodeghbpaaGreatDoorTEYJ
import Derived.Test.YthjhfdodeghbpaaGreatDoorMg
open Nat renaming le_add_right→za,le_refl→zb,mul_one→zc,lt_of_lt_of_le→zd,le_trans→ze,zero_le→zl,lt_succ_self→zn,lt_or_ge→zq
open Option renaming some→zf
open List renaming getD_eq_getElem?_getD→zg,length_map→zo,mem_map→zp,mem_iff_getElem→zr
open Bool renaming not_false→zh,not_true→zj,and_eq_true→zm,false_eq_true→zu
open Int renaming tdiv_eq_ediv_of_nonneg→zi
open UInt8 renaming ofNat→zk
open Array renaming extract_size→zt
set_option linter.all false
set_option maxRecDepth 100000
set_option maxHeartbeats 1000000
private theorem om{P:Prop}(h:P:=by omega):P:=h
private theorem sm{P:Prop}(h:P:=by simp):P:=h
namespace Go.Id.Tryz
open Go Go.Id Go.Proofs
section
variable {α:Type} [Inhabited α] (emb:α->Int) (tl:List IV) {cf:α->α->Int} {g:Nat} {first cap:List IV} {id:Nat}
structure SKp (id:Nat) (d':Array α) (σ s:Store):Prop where
 next:σ.next<=s.next
 other:∀i,i<σ.next->i≠id->s.obj i=σ.obj i
 row:s.obj id=zf (.row (bb6 emb tl d'))
def SO.kp {d:Array α}{σ s:Store}(h:SO emb tl id d σ s):SKp emb tl id d σ s:=⟨h.next,λi _ hi=>h.other i hi,h.row⟩
def SKp.trans {d c:Array α}{σ s t:Store}(h:SKp emb tl id d σ s)(a:SKp emb tl id c s t):SKp emb tl id c σ t :=
 ⟨ze h.next a.next,λi hi b=>by rw[a.other i (zd hi h.next) b,h.other i hi b],a.row⟩
structure Bx (c:Nat) (σ s:Store):Prop where
 next:σ.next<=s.next
 other:∀i,i≠c->s.obj i=σ.obj i
 box:∃z:Int,s.obj c=zf (.cells [.int .i64 z])
def Bx.trans {c:Nat}{σ s t:Store}(h:Bx c σ s)(a:Bx c s t):Bx c σ t:=⟨ze h.next a.next,λi hi=>by rw[a.other i hi,h.other i hi],a.box⟩
def eg4 (i:ch7 emb cf g first cap){σ:Store}(d:Array α)(a b c:Nat)(z:Int)(o:a<d.size)(n:b<d.size)(hc:c≠id)(m:σ.obj id=zf (.row (bb6 emb tl d)))(f:σ.obj c=zf (.cells [.int .i64 z])) :
  Cq 287 [.slice id 0 d.size 1,.int .i64 a,.int .i64 b,.ptr c 0,.func (.func g) first cap] σ λv s=>(v=.tuple [.int .i64 a,.int .i64 b]\/v=.tuple [.int .i64 b,.int .i64 a])/\Bx c σ s:=by
 refine C_f fok287 (nZ rfl) ?_;have t:(0:Int)<=(a:Int):=om;have r:(a:Int)<d.size:=om;have q:(0:Int)<=(b:Int):=om;have p:(b:Int)<d.size:=om;have k:=ak6 emb tl o;have j:=ak6 emb tl n;have h:=i.pc d[b]! d[a]!;simp only[ic287,go_sem,t,r,q,p,k,j,m,zc];refine al7 i.ok h ?_;by_cases e:cf d[b]! d[a]! < 0
 .simp only[go_sem,e,f];exact ⟨.inr (by first|rfl|trivial),by simp only[aa7];omega,λi hi=>by simp only[aa3,hi,if_false],_,by simp only[aa3,if_true];rfl⟩
 .simp only[go_sem,e];exact ⟨.inl (by first|rfl|trivial),za _ _,λ_ _=>rfl,z,f⟩
def fq8 (A:ch7 emb cf g first cap){σ:Store}(d:Array α)(a b e c:Nat)(z:Int)(P:a<d.size)(N:b<d.size)(M:e<d.size)(hc:c≠id)(B:σ.obj id=zf (.row (bb6 emb tl d)))(u:σ.obj c=zf (.cells [.int .i64 z])) :
  Cq 279 [.slice id 0 d.size 1,.int .i64 a,.int .i64 b,.int .i64 e,.ptr c 0,.func (.func g) first cap] σ λv s=>(∃m:Nat,v=.int .i64 m/\(m=a\/m=b\/m=e))/\Bx c σ s:=by
 refine C_f fok279 (nZ rfl) ?_;simp only[ic279,go_sem];refine ab8 fok287 (eg4 emb tl A d a b c z P N hc B u) ?_;rintro v s ⟨f,k⟩;have⟨z1,r⟩:=k.box;refine ⟨k.next,?_⟩;have F:∀x y:Nat,((x=a/\y=b)\/(x=b/\y=a))->v=.tuple [.int .i64 x,.int .i64 y]->x<d.size/\y<d.size:=λx y h _=>by omega
 obtain ⟨x,y,I,rfl⟩:∃x y:Nat,((x=a/\y=b)\/(x=b/\y=a))/\v=.tuple [.int .i64 x,.int .i64 y]:=by
  rcases f with rfl|rfl
  .exact ⟨a,b,.inl ⟨rfl,rfl⟩,rfl⟩
  .exact ⟨b,a,.inr ⟨rfl,rfl⟩,rfl⟩
 have J:x<d.size:=om;have H:y<d.size:=om;have i:s.obj id=zf (.row (bb6 emb tl d)):=by rw[k.other id (Ne.symm hc)];exact B
 simp only[go_sem];refine ab8 fok287 (eg4 emb tl A d y e c z1 H M hc i r) ?_;rintro v E ⟨f,j⟩;have⟨z2,o⟩:=j.box;refine ⟨j.next,?_⟩
 obtain ⟨p,q,K,rfl⟩:∃p q:Nat,((p=y/\q=e)\/(p=e/\q=y))/\v=.tuple [.int .i64 p,.int .i64 q]:=by
  rcases f with rfl|rfl
  .exact ⟨y,e,.inl ⟨rfl,rfl⟩,rfl⟩
  .exact ⟨e,y,.inr ⟨rfl,rfl⟩,rfl⟩
 have hp:p<d.size:=om;have t:E.obj id=zf (.row (bb6 emb tl d)):=by rw[j.other id (Ne.symm hc)];exact i
 simp only[go_sem];refine ab8 fok287 (eg4 emb tl A d x p c z2 J hp hc t o) ?_;rintro v Q ⟨f,D⟩;refine ⟨D.next,?_⟩
 obtain ⟨m,n,L,rfl⟩:∃m n:Nat,((m=x/\n=p)\/(m=p/\n=x))/\v=.tuple [.int .i64 m,.int .i64 n]:=by
  rcases f with rfl|rfl
  .exact ⟨x,p,.inl ⟨rfl,rfl⟩,rfl⟩
  .exact ⟨p,x,.inr ⟨rfl,rfl⟩,rfl⟩
 simp only[go_sem];exact ⟨⟨n,rfl,om⟩,(k.trans j).trans D⟩
def ff6 (o:ch7 emb cf g first cap){σ:Store}(d:Array α)(a c:Nat)(z:Int)(n:1<=a)(k:a+1<d.size)(p:d.size<2^40)(hc:c≠id)(j:σ.obj id=zf (.row (bb6 emb tl d)))(b:σ.obj c=zf (.cells [.int .i64 z])) :
  Cq 278 [.slice id 0 d.size 1,.int .i64 a,.ptr c 0,.func (.func g) first cap] σ λv s=>(∃m:Nat,v=.int .i64 m/\a-1<=m/\m<=a+1)/\Bx c σ s:=by
 refine C_f fok278 (nZ rfl) ?_;have f:=bp2 (a:=a) n om;have e:=ac6 (i:=a) om;simp only[ic278,go_sem,f,e];refine ab8 fok279 (fq8 emb tl o d (a-1) a (a+1) c z om om k hc j b) ?_;rintro v s ⟨⟨m,rfl,q⟩,h⟩;refine ⟨h.next,?_⟩;simp only[go_sem];exact ⟨⟨m,rfl,om,om⟩,h⟩
def it8 (U:ch7 emb cf g first cap){σ:Store}(d:Array α)(a b:Nat)(aa:a+12<b)(hb:b<=d.size)(hz:d.size<2^40)(f:id<σ.next)(K:σ.obj id=zf (.row (bb6 emb tl d))) :
  Cq 256 [.slice id 0 d.size 1,.int .i64 a,.int .i64 b,.func (.func g) first cap] σ λv s=>(∃(m:Nat) (h:Int),v=.tuple [.int .i64 m,.int .i64 h]/\a<=m/\m<b)/\SKp emb tl id d σ s:=by
 refine C_f fok256 (nZ rfl) ?_;obtain ⟨l,hl⟩:∃l,l=b-a:=⟨_,rfl⟩;have w0:=gm5 (a:=b) (b:=a) om om;rw[<- hl] at w0;have r:¬((4:Int)=0):=by decide
 have Y:IntKind.i64.wrap ((l:Int).tdiv 4)=((l/4:Nat):Int):=by
  have:(l:Int).tdiv 4=((l/4:Nat):Int):=by rw[zi om];omega
  rw[this,wrap64 om om]
 have A:IntKind.i64.wrap (((l/4:Nat):Int)*1)=((l/4:Nat):Int):=by rw[wrap64 om om];omega
 have y:IntKind.i64.wrap (((l/4:Nat):Int)*2)=((l/4*2:Nat):Int):=by rw[wrap64 om om];omega
 have m3:IntKind.i64.wrap (((l/4:Nat):Int)*3)=((l/4*3:Nat):Int):=by rw[wrap64 om om];omega
 have a1:=id6 (a:=a) (b:=l/4) om;have a2:=id6 (a:=a) (b:=l/4*2) om;have a3:=id6 (a:=a) (b:=l/4*3) om;have c8:(8:Int)<=(l:Int):=om;have B:σ.next≠id:=om;simp only[ic256,go_sem,w0,r,Y,A,y,m3,a1,a2,a3,c8]
 -- the last median,and what is told of it
 have fin:∀(u:Store) (i j k:Nat) (z:Int),a<=i->i<b->a<=j->j<b->a<=k->k<b->σ.next<u.next->(∀x,x<σ.next->u.obj x=σ.obj x)->u.obj σ.next=zf (.cells [.int .i64 z])->Cq 279 [.slice id 0 d.size 1,.int .i64 i,.int .i64 j,.int .i64 k,.ptr σ.next 0,.func (.func g) first cap] u λv s=>∃m:Nat,v=.int .i64 m/\a<=m/\m<b/\u.next<=s.next/\(∀x,x<σ.next->s.obj x=σ.obj x)/\∃z:Int,s.obj σ.next=zf (.cells [.int .i64 z]):=λu i j k z P N V M h5 h6 h7 D L=>
  (fq8 emb tl U d i j k σ.next z om om om B (by rw[D id f];exact K) L).mono λv s ⟨⟨m,e,hm⟩,h⟩=>⟨m,e,om,om,h.next,λx t=>by rw[h.other x om];exact D x t,h.box⟩
 have Q:∀(s:Store) (m:Nat),a<=m->m<b->σ.next<=s.next->(∀x,x<σ.next->s.obj x=σ.obj x)->∀h:Int,(∃(J:Nat) (h':Int),IV.tuple [.int .i64 m,.int .i64 h]=.tuple [.int .i64 J,.int .i64 h']/\a<=J/\J<b)/\SKp emb tl id d σ s:=λs m P N V M h=>⟨⟨m,h,rfl,P,N⟩,V,λx t _=>M x t,by rw[M id f];exact K⟩
 have q:∀(u:Store) (i:Nat) (z:Int),a+1<=i->i+1<b->σ.next<u.next->(∀x,x<σ.next->u.obj x=σ.obj x)->u.obj σ.next=zf (.cells [.int .i64 z])->Cq 278 [.slice id 0 d.size 1,.int .i64 i,.ptr σ.next 0,.func (.func g) first cap] u λv s=>∃m:Nat,v=.int .i64 m/\a<=m/\m<b/\u.next<=s.next/\(∀x,x<σ.next->s.obj x=σ.obj x)/\∃z:Int,s.obj σ.next=zf (.cells [.int .i64 z]):=λu i z P N h7 D L=>
  (ff6 emb tl U d i σ.next z om om hz B (by rw[D id f];exact K) L).mono λv s ⟨⟨m,e,hm,hm2⟩,h⟩=>⟨m,e,om,om,h.next,λx t=>by rw[h.other x om];exact D x t,h.box⟩
 have start:∀x,x<σ.next->(Store.put ⟨σ.next+1,σ.obj⟩ σ.next (.cells [.int .i64 0])).obj x=σ.obj x:=λx t=>by
  have:¬x=σ.next:=om;simp only[aa3,this,if_false]
 have c:(Store.put ⟨σ.next+1,σ.obj⟩ σ.next (.cells [.int .i64 0])).obj σ.next=zf (.cells [.int .i64 0]):=by simp only[aa3,if_true]
 by_cases ab:50<=l
 .have o:(50:Int)<=(l:Int):=om;simp only[go_sem,o];refine ab8 fok278 (q _ (a+l/4) 0 om om (by first|exact zn _|(simp only[aa7];omega)) start c) ?_;rintro v S ⟨i,rfl,i1,i2,T,o1,z1,b1⟩;refine ⟨T,?_⟩;have I:σ.next<S.next:=zd (by first|exact zn _|(simp only[aa7];omega)) T;simp only[go_sem];refine ab8 fok278 (q S (a+l/4*2) z1 om om I o1 b1) ?_;rintro v X ⟨j,rfl,j1,j2,n2,o2,z2,b2⟩;refine ⟨n2,?_⟩;simp only[go_sem];refine ab8 fok278 (q X (a+l/4*3) z2 om om om o2 b2) ?_;rintro v W ⟨k,rfl,k1,k2,n3,o3,z3,b3⟩;refine ⟨n3,?_⟩;simp only[go_sem];refine ab8 fok279 (fin W i j k z3 i1 i2 j1 j2 k1 k2 om o3 b3) ?_;rintro v E ⟨m,rfl,A,y,r,F,z4,p⟩;refine ⟨r,?_⟩;have hs:=Q E m A y om F;by_cases n:z4=0
  .simp only[go_sem,p,n];exact hs _
  by_cases e1:z4=12
  .simp only[go_sem,p,n,e1];exact hs _
  simp only[go_sem,p,n,e1];exact hs _
 .have o:¬(50:Int)<=(l:Int):=om;simp only[go_sem,o];refine ab8 fok279 (fin _ (a+l/4) (a+l/4*2) (a+l/4*3) 0 om om om om om om (by first|exact zn _|(simp only[aa7];omega)) start c) ?_;rintro v E ⟨m,rfl,A,y,r,F,z4,p⟩;refine ⟨r,?_⟩;have H:σ.next<=E.next:=ze (by first|exact Nat.le_succ _|(simp only[aa7];omega)) r;have hs:=Q E m A y H F;by_cases n:z4=0
  .simp only[go_sem,p,n];exact hs _
  by_cases e1:z4=12
  .simp only[go_sem,p,n,e1];exact hs _
  simp only[go_sem,p,n,e1];exact hs _
end
def ht8:List UInt8:=[0,1,2,2,3,3,3,3,4,4,4,4,4,4,4,4,5,5,5,5,5,5,5,5,5,5,5,5,5,5,5,5,6,6,6,6,6,6,6,6,6,6,6,6,6,6,6,6,6,6,6,6,6,6,6,6,6,6,6,6,6,6,6,6,7,7,7,7,7,7,7,7,7,7,7,7,7,7,7,7,7,7,7,7,7,7,7,7,7,7,7,7,7,7,7,7,7,7,7,7,7,7,7,7,7,7,7,7,7,7,7,7,7,7,7,7,7,7,7,7,7,7,7,7,7,7,7,7,8,8,8,8,8,8,8,8,8,8,8,8,8,8,8,8,8,8,8,8,8,8,8,8,8,8,8,8,8,8,8,8,8,8,8,8,8,8,8,8,8,8,8,8,8,8,8,8,8,8,8,8,8,8,8,8,8,8,8,8,8,8,8,8,8,8,8,8,8,8,8,8,8,8,8,8,8,8,8,8,8,8,8,8,8,8,8,8,8,8,8,8,8,8,8,8,8,8,8,8,8,8,8,8,8,8,8,8,8,8,8,8,8,8,8,8,8,8,8,8,8,8,8,8,8,8,8,8]
def ht9:∀n:Nat,n<256->ht8[n]? = zf (zk (Go.Sort.bitsLen n)):=by
 have h:∀n:Fin 256,ht8[n.1]? = zf (zk (Go.Sort.bitsLen n.1)):=by decide +kernel
 exact λn a=>h ⟨n,a⟩
def ch9:∀n:Nat,n<256->Go.Sort.bitsLen n<=8/\2^Go.Sort.bitsLen n<=2*n+1/\(zk (Go.Sort.bitsLen n)).toNat=Go.Sort.bitsLen n:=by
 have h:∀n:Fin 256,Go.Sort.bitsLen n.1<=8/\2^Go.Sort.bitsLen n.1<=2*n.1+1/\(zk (Go.Sort.bitsLen n.1)).toNat=Go.Sort.bitsLen n.1:=by decide +kernel
 exact λn a=>h ⟨n,a⟩
def it9 {n:Nat}(a:n<256):dy7 (.str [0,1,2,2,3,3,3,3,4,4,4,4,4,4,4,4,5,5,5,5,5,5,5,5,5,5,5,5,5,5,5,5,6,6,6,6,6,6,6,6,6,6,6,6,6,6,6,6,6,6,6,6,6,6,6,6,6,6,6,6,6,6,6,6,7,7,7,7,7,7,7,7,7,7,7,7,7,7,7,7,7,7,7,7,7,7,7,7,7,7,7,7,7,7,7,7,7,7,7,7,7,7,7,7,7,7,7,7,7,7,7,7,7,7,7,7,7,7,7,7,7,7,7,7,7,7,7,7,8,8,8,8,8,8,8,8,8,8,8,8,8,8,8,8,8,8,8,8,8,8,8,8,8,8,8,8,8,8,8,8,8,8,8,8,8,8,8,8,8,8,8,8,8,8,8,8,8,8,8,8,8,8,8,8,8,8,8,8,8,8,8,8,8,8,8,8,8,8,8,8,8,8,8,8,8,8,8,8,8,8,8,8,8,8,8,8,8,8,8,8,8,8,8,8,8,8,8,8,8,8,8,8,8,8,8,8,8,8,8,8,8,8,8,8,8,8,8,8,8,8,8,8,8,8,8,8]) (.int .u8 n)=zf (.int .u8 (Go.Sort.bitsLen n:Nat)):=by
 have c:=ht9 n a;have h0:(0:Int)<=(n:Int):=om;show (if 0<=(n:Int) then (ht8[((n:Int)).toNat]?).map λb=>IV.int .u8 b.toNat else none)=_;rw[if_pos h0,Int.toNat_natCast,c];show zf (IV.int .u8 ((zk (Go.Sort.bitsLen n)).toNat:Nat))=_;rw[(ch9 n a).2.2]
def iu1 (n:Nat)(b:n<256):Pq 245 [.int .u64 n] (.int .i64 (Go.Sort.bitsLen n:Nat)):=by
 refine aw8 fok245 (nZ rfl) λσ=>?_
 have h:¬(4294967296:Int)<=n:=om;have f:¬(65536:Int)<=n:=om;have e:¬(256:Int)<=n:=om
 have d:IntKind.u8.wrap (n:Int)=n:=by
  show (n:Int)%256=n;omega
 have i:=(ch9 n b).1;have a:IntKind.i64.wrap ((Go.Sort.bitsLen n:Nat):Int)=(Go.Sort.bitsLen n:Nat):=wrap64 om om;have c:IntKind.i64.wrap (0+((Go.Sort.bitsLen n:Nat):Int))=(Go.Sort.bitsLen n:Nat):=by rw[Int.zero_add];exact a
 simp only[ic245,go_sem,h,f,e,d,it9 b,a,c,and_self]
def hu4 (n:Nat)(a:n<256):Pq 190 [.int .u64 n] (.int .i64 (Go.Sort.bitsLen n:Nat)):=by
 refine aw8 fok190 (nZ rfl) λσ=>?_
 simp only[ic190,go_sem];refine aa4 fok245 (iu1 n a) ?_;simp only[go_sem,and_self]
def jq6 (n:Nat)(b:n<256):Pq 273 [.int .i64 n] (.int .u64 (2^Go.Sort.bitsLen n:Nat)):=by
 refine aw8 fok273 (nZ rfl) λσ=>?_
 have w0:IntKind.u64.wrap (n:Int)=n:=by
  show (n:Int)%18446744073709551616=n;omega
 have⟨d,hp,_⟩:=ch9 n b;have h0:(0:Int)<=((Go.Sort.bitsLen n:Nat):Int):=om
 have c:IntKind.u64.wrap (1*2^min (Go.Sort.bitsLen n) 64)=(2^Go.Sort.bitsLen n:Nat):=by
  have e:min (Go.Sort.bitsLen n) 64=Go.Sort.bitsLen n:=Nat.min_eq_left om;rw[e,Int.one_mul];have e2:((2:Int)^Go.Sort.bitsLen n)=((2^Go.Sort.bitsLen n:Nat):Int):=by norm_cast
  rw[e2];have:2^Go.Sort.bitsLen n<=511:=ze hp om;generalize 2^Go.Sort.bitsLen n=q at *;show (q:Int)%18446744073709551616=_;omega
 have a:IntKind.u64.bits=64:=rfl;simp only[ic273,go_sem,w0];refine aa4 fok190 (hu4 n b) ?_;simp only[go_sem,h0,a,c,and_self]
def gk3:∀n:Nat,1<=n->n<256->2^Go.Sort.bitsLen n<=2*n:=by
 have h:∀n:Fin 256,1<=n.1->2^Go.Sort.bitsLen n.1<=2*n.1:=by decide +kernel
 exact λn b a=>h ⟨n,a⟩ b
def jq7 (a b:Int):∃c:Nat,c<2^64/\aw5 .xor (.int .u64 a) (.int .u64 b)=zf (.int .u64 c):=by
 have h:aw5 .xor (.int .u64 a) (.int .u64 b)=zf (.int .u64 (IntKind.u64.wrap ((BitVec.ofInt 64 a ^^^ BitVec.ofInt 64 b).toNat:Int))):=by simp[aw5,eh6];rfl
 have d:(BitVec.ofInt 64 a ^^^ BitVec.ofInt 64 b).toNat<2^64:=BitVec.isLt _;refine ⟨_,d,?_⟩;rw[h];congr 2;show (((BitVec.ofInt 64 a ^^^ BitVec.ofInt 64 b).toNat:Nat):Int)%18446744073709551616=_;omega
def kv2 (a b:Nat)(e:b<2^64):∃c:Nat,c<=b/\aw5 .and (.int .u64 a) (.int .u64 b)=zf (.int .u64 c):=by
 have h:aw5 .and (.int .u64 a) (.int .u64 b)=zf (.int .u64 (IntKind.u64.wrap ((BitVec.ofInt 64 a &&& BitVec.ofInt 64 b).toNat:Int))):=by simp[aw5,eh6];rfl
 have d:(BitVec.ofInt 64 a &&& BitVec.ofInt 64 b).toNat<=b:=by
  rw[BitVec.toNat_and];refine ze Nat.and_le_right ?_;simp[BitVec.toNat_ofInt];omega
 refine ⟨_,d,?_⟩;rw[h];congr 2;show (((BitVec.ofInt 64 a &&& BitVec.ofInt 64 b).toNat:Nat):Int)%18446744073709551616=_;omega
def jq8 {σ:Store}{r:Nat}{x:Int}(m:σ.obj r=zf (.cells [.int .u64 x])) :
  Cq 274 [.ptr r 0] σ λv s=>∃y:Nat,y<2^64/\v=.int .u64 y/\σ.next<=s.next/\(∀i,i≠r->s.obj i=σ.obj i)/\s.obj r=zf (.cells [.int .u64 y]):=by
 refine C_f fok274 (nZ rfl) ?_;have⟨b,u,k⟩:=jq7 x (IntKind.u64.wrap (x*2^min (13:Int).toNat IntKind.u64.bits));have⟨a,t,j⟩:=jq7 (b:Int) ((b:Int).fdiv (2^min (7:Int).toNat IntKind.u64.bits));have⟨c,q,h⟩:=jq7 (a:Int) (IntKind.u64.wrap ((a:Int)*2^min (17:Int).toNat IntKind.u64.bits));generalize p:IntKind.u64.wrap (x*2^min (13:Int).toNat IntKind.u64.bits)=A at *;generalize o:(b:Int).fdiv (2^min (7:Int).toNat IntKind.u64.bits)=B at *;generalize n:IntKind.u64.wrap ((a:Int)*2^min (17:Int).toNat IntKind.u64.bits)=D at *;have f:aw5 .shl (.int .u64 x) (.int .u64 13)=zf (.int .u64 A):=by rw[em2,if_pos (by decide),p]
 have e:aw5 .shr (.int .u64 b) (.int .u64 7)=zf (.int .u64 B):=by rw[ey4,if_pos (by decide),o]
 have d:aw5 .shl (.int .u64 a) (.int .u64 17)=zf (.int .u64 D):=by rw[em2,if_pos (by decide),n]
 simp only[ic274,go_sem,m,f,e,d,k,j,h];exact ⟨c,q,by first|rfl|trivial,by first|omega|(simp only[aa7];omega),λi hi=>by simp only[hi,if_false],by first|rfl|trivial⟩
section
variable {α:Type} [Inhabited α] (emb:α->Int) (tl:List IV) {cf:α->α->Int} {g:Nat} {first cap:List IV} {id:Nat}
def jq9 {σ:Store}(d:Array α)(a b:Nat)(fv:IV)(ag:a+12<b)(hb:b<=d.size)(hz:d.size<256)(ae:id<σ.next)(ho:σ.obj id=zf (.row (bb6 emb tl d))) :
  Cq 255 [.slice id 0 d.size 1,.int .i64 a,.int .i64 b,fv] σ λv s=>v=.tuple []/\∃d',Go.Sort.PermIn a b d d'/\SKp emb tl id d' σ s:=by
 refine C_f fok255 (nZ rfl) ?_;obtain ⟨l,hl⟩:∃l,l=b-a:=⟨_,rfl⟩;have w0:=gm5 (a:=b) (b:=a) om om;rw[<- hl] at w0;have W:¬((4:Int)=0):=by decide
 have N:IntKind.i64.wrap ((l:Int).tdiv 4)=((l/4:Nat):Int):=by
  have:(l:Int).tdiv 4=((l/4:Nat):Int):=by rw[zi om];omega
  rw[this,wrap64 om om]
 have X:IntKind.i64.wrap (((l/4:Nat):Int)*2)=((l/4*2:Nat):Int):=by rw[wrap64 om om];omega
 have a2:=id6 (a:=a) (b:=l/4*2) om;obtain ⟨base,q⟩:∃base,base+1=a+l/4*2:=⟨a+l/4*2-1,om⟩;rw[<- q] at a2;have a3:IntKind.i64.wrap (((base+1:Nat):Int)-1)=((base+0:Nat):Int):=by rw[wrap64 om om];omega
 have a4:=ac6 (i:=base+1) om;have c8:(8:Int)<=(l:Int):=om
 have u0:IntKind.u64.wrap (l:Int)=l:=by
  show (l:Int)%18446744073709551616=l;omega
 have z:σ.next≠id:=om;have u:=jq6 l om;have h2:=gk3 l om om;obtain ⟨Q,hQ⟩:∃Q,Q=2^Go.Sort.bitsLen l:=⟨_,rfl⟩;have ah:0<Q:=by rw[hQ];exact Nat.pow_pos (by decide)
 rw[<- hQ] at u h2;simp only[ic255,go_sem,w0,c8,u0];refine aa4 fok273 u ?_;simp only[go_sem,W,N,X,a2,a3];refine aa9 noT (λk fr t=>∃(e:Array α) (y:Int),fr=[(0,.slice id 0 d.size 1),(1,.int .i64 a),(8,.int .i64 l),(9,.ptr σ.next 0),(10,.int .u64 Q),(11,.int .i64 ((base+k:Nat):Int))]/\σ.next<t.next/\(∀x,x<σ.next->x≠id->t.obj x=σ.obj x)/\t.obj id=zf (.row (bb6 emb tl e))/\t.obj σ.next=zf (.cells [.int .u64 y])/\e.size=d.size/\Go.Sort.PermIn a b d e) 3 ⟨d,l,rfl,by show σ.next<σ.next+1;omega,λx E _=>?_,?_,?_,rfl,Go.Sort.permIn_refl d a b⟩ ?_
 .have:¬x=σ.next:=om;simp only[aa3,this,if_false]
 .have:¬id=σ.next:=om;simp only[aa3,this,if_false];exact ho
 .simp only[aa3,if_true]
 rintro k fr t hk ⟨e,y,rfl,hn,m,n,B,r,hP⟩;by_cases h3:k<3
 .have c1:((base+k:Nat):Int)<=((base+1+1:Nat):Int):=om;have w1:=ac6 (i:=base+k) om;simp only[go_sem,W,N,X,a2,a4,c1];refine ab8 fok274 (jq8 B) ?_;rintro v s ⟨F,ad,rfl,aa,p,D⟩;refine ⟨aa,?_⟩
  have u1:IntKind.u64.wrap ((Q:Int)-1)=((Q-1:Nat):Int):=by
   show ((Q:Int)-1)%18446744073709551616=_;omega
  have⟨c,af,A⟩:=kv2 F (Q-1) om;have u2:IntKind.i64.wrap (c:Int)=c:=wrap64 om om;have h:s.obj id=zf (.row (bb6 emb tl e)):=by rw[p id om];exact n
  have ac:∀(o:Nat),o<l->∀(U:Store),U.obj=s.obj->s.next<=U.next->True:=λ_ _ _ _ _=>trivial
  by_cases ab:l<=c
  .have d1:(l:Int)<=c:=om;have u3:=gm5 (a:=c) (b:=l) ab om;obtain ⟨o,Y⟩:∃o,o=c-l:=⟨_,rfl⟩;rw[<- Y] at u3;have H:=id6 (a:=a) (b:=o) om;have V:(0:Int)<=((base+k:Nat):Int):=om;have T:((base+k:Nat):Int)<d.size:=om;have S:(0:Int)<=((a+o:Nat):Int):=om;have P:((a+o:Nat):Int)<d.size:=om;have⟨M,L,K,J,I⟩:=aj7 emb tl (d:=e) (i:=base+k) (j:=a+o) om om;simp only[go_sem,u1,A,u2,d1,u3,H,V,T,S,P,M,L,K,J,I,h,w1,zc];refine ⟨h3,Go.Sort.swp e (base+k) (a+o),F,rfl,?_,λx E f=>?_,?_,?_,by rw[swp_size];exact r,Go.Sort.permIn_trans _ _ _ a b hP (Go.Sort.swp_permIn e a b _ _ om om om om om)⟩
   .first|omega|(simp only[aa7];omega)
   .simp only[aa3,f,if_false];rw[p x om];exact m x E f
   .simp only[aa3,if_true]
   .simp only[aa3,z,if_false];exact D
  .have d1:¬(l:Int)<=c:=om;have H:=id6 (a:=a) (b:=c) om;have V:(0:Int)<=((base+k:Nat):Int):=om;have T:((base+k:Nat):Int)<d.size:=om;have S:(0:Int)<=((a+c:Nat):Int):=om;have P:((a+c:Nat):Int)<d.size:=om;have⟨M,L,K,J,I⟩:=aj7 emb tl (d:=e) (i:=base+k) (j:=a+c) om om;simp only[go_sem,u1,A,u2,d1,H,V,T,S,P,M,L,K,J,I,h,w1,zc];refine ⟨h3,Go.Sort.swp e (base+k) (a+c),F,rfl,?_,λx E f=>?_,?_,?_,by rw[swp_size];exact r,Go.Sort.permIn_trans _ _ _ a b hP (Go.Sort.swp_permIn e a b _ _ om om om om om)⟩
   .first|omega|(simp only[aa7];omega)
   .simp only[aa3,f,if_false];rw[p x om];exact m x E f
   .simp only[aa3,if_true]
   .simp only[aa3,z,if_false];exact D
 .have e3:k=3:=om;subst e3;have c1:¬((base+3:Nat):Int)<=((base+1+1:Nat):Int):=om;simp only[go_sem,W,N,X,a2,a4,c1];exact ⟨e,hP,om,m,n⟩
end
section
variable {α:Type} [Inhabited α] (emb:α->Int) (tl:List IV) {cf:α->α->Int} {g:Nat} {first cap:List IV} {id:Nat}
def SO.up {d:Array α}{σ u v:Store}(h:SO emb tl id d σ u)(a:v.obj=u.obj)(b:u.next<=v.next):SO emb tl id d σ v:=⟨ze h.next b,λi hi=>by rw[a];exact h.other i hi,by rw[a];exact h.row⟩
def eg5 {p:α->Bool}{d:Array α}{j i:Nat}(h:i<=j)(hp:p d[i]! = true):Go.Sort.scanUp p d j i=Go.Sort.scanUp p d j (i+1):=by
 rw[Go.Sort.scanUp,if_pos (by simp[h,hp])]
def bx2 {p:α->Bool}{d:Array α}{j i:Nat}(h:i<=j->p d[i]! = false):Go.Sort.scanUp p d j i=i:=by
 rw[Go.Sort.scanUp,if_neg];intro hc;simp only[zm,decide_eq_true_eq] at hc;rw[h hc.1] at hc;exact absurd hc.2 (by decide)
def ct3 {p:α->Bool}{d:Array α}{j i:Nat}(hi:1<=i)(h:i<=j)(hp:p d[j]! = true):Go.Sort.scanDown p d i j=Go.Sort.scanDown p d i (j-1):=by
 obtain ⟨a,rfl⟩:∃a,j=a+1:=⟨j-1,om⟩;rw[Go.Sort.scanDown,if_pos (by simp[h,hp])];rfl
def bd8 {p:α->Bool}{d:Array α}{j i:Nat}(h:i<=j->p d[j]! = false):Go.Sort.scanDown p d i j=j:=by
 cases j with
 | zero=>rfl
 | succ j=>
  rw[Go.Sort.scanDown,if_neg];intro hc;simp only[zm,decide_eq_true_eq] at hc;rw[h hc.1] at hc;exact absurd hc.2 (by decide)
def bn8 {P:Program}{E:Nat->IV}{N n0:Nat}{fr:Frm}{σ:Store}{x:IC}{Q:Exit->Frm->Store->Prop}(a:Exit->Frm->Store->Prop)(h:RI P E N n0 (.loop x) fr σ a)(b:∀e f s,a e f s->Q e f s):RI P E N n0 (.loop x) fr σ Q:=ak9 h b
def bn9 {x y:α}(h:cf x y<0):ltOf cf x y=true:=decide_eq_true h
def ba5 {x y:α}(h:¬cf x y<0):ltOf cf x y=false:=decide_eq_false h
def iu2 (P:ch7 emb cf g first cap){σ:Store}(d:Array α)(a b pv:Nat)(ai:a<=pv)(ae:pv<b)(hb:b<=d.size)(hz:d.size<2^40)(ho:σ.obj id=zf (.row (bb6 emb tl d))) :
  Cq 259 [.slice id 0 d.size 1,.int .i64 a,.int .i64 b,.int .i64 pv,.func (.func g) first cap] σ λv s=>v=.int .i64 (Go.Sort.partitionEqual (ltOf cf) d a b pv).1/\SO emb tl id (Go.Sort.partitionEqual (ltOf cf) d a b pv).2 σ s:=by
 refine C_f fok259 (nZ rfl) ?_;have c2:(0:Int)<=(a:Int):=om;have c3:(a:Int)<d.size:=om;have c4:(0:Int)<=(pv:Int):=om;have c5:(pv:Int)<d.size:=om;have w0:=ac6 (i:=a) om;have w1:=bp2 (a:=b) om om;have⟨Y,X,W,V,U⟩:=aj7 emb tl (d:=d) (i:=a) (j:=pv) om om;simp only[ic259,go_sem,c2,c3,c4,c5,w0,w1,ho,Y,X,W,V,U,zc];unfold Go.Sort.partitionEqual;refine aa9 noT (λk fr t=>∃(i j:Nat) (c:Array α),fr=[(0,.slice id 0 d.size 1),(1,.int .i64 a),(4,.func (.func g) first cap),(11,.int .i64 (i:Int)),(12,.int .i64 (j:Int))]/\SO emb tl id c σ t/\c.size=d.size/\a+1<=i/\i<=j+1/\j<b/\k<=i/\Go.Sort.partEqLoop (ltOf cf) a i j c=Go.Sort.partEqLoop (ltOf cf) a (a+1) (b-1) (Go.Sort.swp d a pv)) (b+1) ⟨a+1,b-1,_,rfl,⟨?_,λm N=>?_,?_⟩,by rw[swp_size],om,om,om,zl _,rfl⟩ ?_
 .first|omega|(simp only[aa7];omega)
 .simp only[aa3,N,if_false]
 .simp only[aa3,if_true]
 rintro k fr t hk ⟨i,j,c,rfl,y,aa,aj,K,ah,ag,F⟩;simp only[go_sem]
 -- up
 refine bn8 (λe f s=>e=.exit 2/\∃n:Nat,f=[(0,.slice id 0 d.size 1),(1,.int .i64 a),(4,.func (.func g) first cap),(11,.int .i64 (n:Int)),(12,.int .i64 (j:Int)),(47,.bool false)]/\SO emb tl id c σ s/\t.next<=s.next/\n=Go.Sort.scanUp (λx=>!ltOf cf c[a]! x) c j i)
  (aa9 noT (λk2 fr u=>∃n:Nat,fr=[(0,.slice id 0 d.size 1),(1,.int .i64 a),(4,.func (.func g) first cap),(11,.int .i64 (n:Int)),(12,.int .i64 (j:Int))]/\SO emb tl id c σ u/\t.next<=u.next/\n=i+k2/\n<=j+1/\Go.Sort.scanUp (λx=>!ltOf cf c[a]! x) c j n=Go.Sort.scanUp (λx=>!ltOf cf c[a]! x) c j i) (j+1-i) ⟨i,rfl,y,zb _,rfl,K,rfl⟩ ?_) ?_
 .rintro k2 fr u ab ⟨n,rfl,y,E,L,ad,z⟩;have S:=ak6 emb tl (d:=c) (k:=a) om;by_cases A:n<=j
  .have B:(n:Int)<=(j:Int):=om;have d2:(0:Int)<=(n:Int):=om;have d3:(n:Int)<d.size:=om;have H:=ac6 (i:=n) om;have Q:=ak6 emb tl (d:=c) (k:=n) om;have hc:=P.pc c[a]! c[n]!;simp only[go_sem,B,d2,d3,c2,c3,y.row,S,Q,zc];refine al7 P.ok hc ?_;by_cases r:cf c[a]! c[n]! < 0
   .have q:=bx2 (p:=λx=>!ltOf cf c[a]! x) (d:=c) (i:=n) (j:=j) (λ_=>by simp only[bn9 r,zj]);simp only[go_sem,r];exact ⟨n,rfl,y.up emb tl rfl (za _ _),ze E (za _ _),by rw[<- z,q]⟩
   .have q:=eg5 (p:=λx=>!ltOf cf c[a]! x) (d:=c) A (by simp only[ba5 r,zh]);simp only[go_sem,r,H];exact ⟨om,n+1,rfl,y.up emb tl rfl (za _ _),ze E (za _ _),om,om,by rw[<- z,q]⟩
  .have B:¬(n:Int)<=(j:Int):=om;have q:=bx2 (p:=λx=>!ltOf cf c[a]! x) (d:=c) (i:=n) (j:=j) (λh=>absurd h A);simp only[go_sem,B];exact ⟨n,rfl,y.up emb tl rfl (za _ _),ze E (za _ _),by rw[<- z,q]⟩
 rintro e f u ⟨rfl,n,rfl,y,E,L⟩;have⟨g1,g2,_,_⟩:=Go.Sort.scanUp_spec (λx=>!ltOf cf c[a]! x) c j _ i rfl;have g2:=g2 K;simp only[go_sem]
 -- down
 refine bn8 (λe f s=>e=.exit 4/\∃o:Nat,f=[(0,.slice id 0 d.size 1),(1,.int .i64 a),(4,.func (.func g) first cap),(11,.int .i64 (n:Int)),(12,.int .i64 (o:Int)),(65,.bool false)]/\SO emb tl id c σ s/\u.next<=s.next/\o=Go.Sort.scanDown (λx=>ltOf cf c[a]! x) c n j)
  (aa9 noT (λk2 fr v=>∃(o:Nat) (I:Frm),fr=(0,.slice id 0 d.size 1)::(1,.int .i64 a)::(4,.func (.func g) first cap)::(11,.int .i64 (n:Int))::(12,.int .i64 (o:Int))::I/\SO emb tl id c σ v/\u.next<=v.next/\o+k2=j/\n<=o+1/\Go.Sort.scanDown (λx=>ltOf cf c[a]! x) c n o=Go.Sort.scanDown (λx=>ltOf cf c[a]! x) c n j) (j+1) ⟨j,_,rfl,y,zb _,rfl,om,rfl⟩ ?_) ?_
 .rintro k2 fr v ab ⟨o,I,rfl,y,D,J,ac,z⟩;have S:=ak6 emb tl (d:=c) (k:=a) om;by_cases A:n<=o
  .have B:(n:Int)<=(o:Int):=om;have d2:(0:Int)<=(o:Int):=om;have d3:(o:Int)<d.size:=om;have H:=bp2 (a:=o) om om;have Q:=ak6 emb tl (d:=c) (k:=o) om;have hc:=P.pc c[a]! c[o]!;simp only[go_sem,B,d2,d3,c2,c3,y.row,S,Q,zc];refine al7 P.ok hc ?_;by_cases r:cf c[a]! c[o]! < 0
   .have q:=ct3 (p:=λx=>ltOf cf c[a]! x) (d:=c) (i:=n) (j:=o) om A (bn9 r);simp only[go_sem,r,H];exact ⟨om,o-1,_,rfl,y.up emb tl rfl (za _ _),ze D (za _ _),om,om,by rw[<- z,q]⟩
   .have q:=bd8 (p:=λx=>ltOf cf c[a]! x) (d:=c) (i:=n) (j:=o) (λ_=>ba5 r);simp only[go_sem,r];exact ⟨o,rfl,y.up emb tl rfl (za _ _),ze D (za _ _),by rw[<- z,q]⟩
  .have B:¬(n:Int)<=(o:Int):=om;have q:=bd8 (p:=λx=>ltOf cf c[a]! x) (d:=c) (i:=n) (j:=o) (λh=>absurd h A);simp only[go_sem,B];exact ⟨o,rfl,y.up emb tl rfl (za _ _),ze D (za _ _),by rw[<- z,q]⟩
 rintro e f v ⟨rfl,o,rfl,y,D,J⟩;have⟨v1,T,_,v4⟩:=Go.Sort.scanDown_spec (λx=>ltOf cf c[a]! x) c n j;have⟨_,_,_,u4⟩:=Go.Sort.scanUp_spec (λx=>!ltOf cf c[a]! x) c j _ i rfl;have T:=T om;rw[Go.Sort.partEqLoop_eq] at F;rw[<- L] at F u4 g1 g2;rw[<- J] at F v1 T v4;by_cases M:n>o
 .have B:(o:Int)<(n:Int):=om;rw[if_pos M] at F;simp only[go_sem,B];rw[<- F];exact ⟨rfl,y.up emb tl rfl (zb _)⟩
 .have B:¬(o:Int)<(n:Int):=om;rw[if_neg M] at F
  have af:n<o:=by
   rcases zq n o with h|h
   .exact h
   .have e:n=o:=om;have f1:=u4 om;have f2:=v4 om om;rw[<- e] at f2;simp only[Bool.not_eq_false'] at f1;rw[f1] at f2;cases f2
  have p1:(0:Int)<=(n:Int):=om;have p2:(n:Int)<d.size:=om;have p3:(0:Int)<=(o:Int):=om;have p4:(o:Int)<d.size:=om;have H:=ac6 (i:=n) om;have w3:=bp2 (a:=o) om om;have⟨Y,X,W,V,U⟩:=aj7 emb tl (d:=c) (i:=n) (j:=o) om om;simp only[go_sem,B,p1,p2,p3,p4,H,w3,y.row,Y,X,W,V,U,zc];refine ⟨om,n+1,o-1,Go.Sort.swp c n o,rfl,⟨?_,λm N=>?_,?_⟩,by rw[swp_size];exact aa,om,om,om,om,F⟩
  .have:=y.next;first|omega|(simp only[aa7];omega)
  .simp only[aa3,N,if_false];exact y.other m N
  .simp only[aa3,if_true]
def kh8 (W:ch7 emb cf g first cap){σ:Store}(d:Array α)(a b pv:Nat)(am:a<=pv)(aj:pv<b)(hb:b<=d.size)(hz:d.size<2^40)(ho:σ.obj id=zf (.row (bb6 emb tl d))) :
  Cq 260 [.slice id 0 d.size 1,.int .i64 a,.int .i64 b,.int .i64 pv,.func (.func g) first cap] σ λv s=>(∃ap,v=.tuple [.int .i64 (Go.Sort.partition (ltOf cf) d a b pv).1,.bool ap])/\SO emb tl id (Go.Sort.partition (ltOf cf) d a b pv).2.2 σ s:=by
 refine C_f fok260 (nZ rfl) ?_;have c2:(0:Int)<=(a:Int):=om;have c3:(a:Int)<d.size:=om;have c4:(0:Int)<=(pv:Int):=om;have c5:(pv:Int)<d.size:=om;have w0:=ac6 (i:=a) om;have w1:=bp2 (a:=b) om om;have⟨V,U,T,S,Q⟩:=aj7 emb tl (d:=d) (i:=a) (j:=pv) om om;simp only[ic260,go_sem,c2,c3,c4,c5,w0,w1,ho,V,U,T,S,Q,zc];obtain ⟨o,af⟩:∃o,o=Go.Sort.swp d a pv:=⟨_,rfl⟩;have aa:o.size=d.size:=by rw[af,swp_size]
 obtain ⟨P,ah⟩:∃P,P=a+1:=⟨_,rfl⟩;obtain ⟨D,ag⟩:∃D,D=b-1:=⟨_,rfl⟩;have N:P<=D+1:=om;rw[<- ah,<- ag];rw[<- af]
 refine bn8 (λe f s=>e=.exit 0/\∃c:Nat,f=[(0,.slice id 0 d.size 1),(1,.int .i64 a),(4,.func (.func g) first cap),(12,.int .i64 (c:Int)),(13,.int .i64 (D:Int)),(47,.bool false)]/\SO emb tl id o σ s/\c=Go.Sort.scanUp (λx=>ltOf cf x o[a]!) o D P)
  (aa9 noT (λk2 fr u=>∃(c:Nat) (B:Frm),fr=(0,.slice id 0 d.size 1)::(1,.int .i64 a)::(4,.func (.func g) first cap)::(12,.int .i64 (c:Int))::(13,.int .i64 (D:Int))::B/\SO emb tl id o σ u/\c=P+k2/\c<=D+1/\Go.Sort.scanUp (λx=>ltOf cf x o[a]!) o D c=Go.Sort.scanUp (λx=>ltOf cf x o[a]!) o D P) (D+1-P) ⟨P,_,rfl,⟨by first|omega|(simp only[aa7];omega),λm L=>by simp only[aa3,L,if_false],by simp only[aa3,if_true]⟩,rfl,N,rfl⟩ ?_) ?_
 .rintro k2 fr u ac ⟨c,B,rfl,z,I,ae,A⟩;have Y:=ak6 emb tl (d:=o) (k:=a) om;by_cases E:c<=D
  .have K:(c:Int)<=(D:Int):=om;have d2:(0:Int)<=(c:Int):=om;have d3:(c:Int)<d.size:=om;have M:=ac6 (i:=c) om;have X:=ak6 emb tl (d:=o) (k:=c) om;have hc:=W.pc o[c]! o[a]!;simp only[go_sem,K,d2,d3,c2,c3,z.row,Y,X,zc];refine al7 W.ok hc ?_;by_cases y:cf o[c]! o[a]! < 0
   .have r:=eg5 (p:=λx=>ltOf cf x o[a]!) (d:=o) E (bn9 y);simp only[go_sem,y,M];exact ⟨om,c+1,_,rfl,z.up emb tl rfl (za _ _),om,om,by rw[<- A,r]⟩
   .have r:=bx2 (p:=λx=>ltOf cf x o[a]!) (d:=o) (i:=c) (j:=D) (λ_=>ba5 y);simp only[go_sem,y];exact ⟨c,rfl,z.up emb tl rfl (za _ _),by rw[<- A,r]⟩
  .have K:¬(c:Int)<=(D:Int):=om;have r:=bx2 (p:=λx=>ltOf cf x o[a]!) (d:=o) (i:=c) (j:=D) (λh=>absurd h E);simp only[go_sem,K];exact ⟨c,rfl,z.up emb tl rfl (za _ _),by rw[<- A,r]⟩
 rintro e f u ⟨rfl,c,rfl,z,I⟩;have⟨g1,g2,_,_⟩:=Go.Sort.scanUp_spec (λx=>ltOf cf x o[a]!) o D _ P rfl;have g2:=g2 N;simp only[go_sem]
 refine bn8 (λe f s=>e=.exit 2/\∃n:Nat,f=[(0,.slice id 0 d.size 1),(1,.int .i64 a),(4,.func (.func g) first cap),(12,.int .i64 (c:Int)),(13,.int .i64 (n:Int)),(66,.bool false)]/\SO emb tl id o σ s/\n=Go.Sort.scanDown (λx=>!ltOf cf x o[a]!) o c D)
  (aa9 noT (λk2 fr v=>∃(n:Nat) (B:Frm),fr=(0,.slice id 0 d.size 1)::(1,.int .i64 a)::(4,.func (.func g) first cap)::(12,.int .i64 (c:Int))::(13,.int .i64 (n:Int))::B/\SO emb tl id o σ v/\n+k2=D/\c<=n+1/\Go.Sort.scanDown (λx=>!ltOf cf x o[a]!) o c n=Go.Sort.scanDown (λx=>!ltOf cf x o[a]!) o c D) (D+1) ⟨D,_,rfl,z,rfl,om,rfl⟩ ?_) ?_
 .rintro k2 fr v ac ⟨n,B,rfl,z,H,ad,A⟩;have Y:=ak6 emb tl (d:=o) (k:=a) om;by_cases E:c<=n
  .have K:(c:Int)<=(n:Int):=om;have d2:(0:Int)<=(n:Int):=om;have d3:(n:Int)<d.size:=om;have M:=bp2 (a:=n) om om;have X:=ak6 emb tl (d:=o) (k:=n) om;have hc:=W.pc o[n]! o[a]!;simp only[go_sem,K,d2,d3,c2,c3,z.row,Y,X,zc];refine al7 W.ok hc ?_;by_cases y:cf o[n]! o[a]! < 0
   .have r:=bd8 (p:=λx=>!ltOf cf x o[a]!) (d:=o) (i:=c) (j:=n) (λ_=>by simp only[bn9 y,zj]);simp only[go_sem,y];exact ⟨n,rfl,z.up emb tl rfl (za _ _),by rw[<- A,r]⟩
   .have r:=ct3 (p:=λx=>!ltOf cf x o[a]!) (d:=o) (i:=c) (j:=n) om E (by simp only[ba5 y,zh]);simp only[go_sem,y,M];exact ⟨om,n-1,_,rfl,z.up emb tl rfl (za _ _),om,om,by rw[<- A,r]⟩
  .have K:¬(c:Int)<=(n:Int):=om;have r:=bd8 (p:=λx=>!ltOf cf x o[a]!) (d:=o) (i:=c) (j:=n) (λh=>absurd h E);simp only[go_sem,K];exact ⟨n,rfl,z.up emb tl rfl (za _ _),by rw[<- A,r]⟩
 rintro e f v ⟨rfl,n,rfl,z,H⟩;have⟨v1,v2,_,v4⟩:=Go.Sort.scanDown_spec (λx=>!ltOf cf x o[a]!) o c D;have⟨_,_,_,u4⟩:=Go.Sort.scanUp_spec (λx=>ltOf cf x o[a]!) o D _ P rfl;have v2:=v2 om;rw[<- I] at u4 g1 g2;rw[<- H] at v1 v2 v4
 have ab:¬c>n->c<n:=λhgt=>by
  rcases zq c n with h|h
  .exact h
  .have e:c=n:=om;have f1:=u4 om;have f2:=v4 om om;rw[<- e] at f2;rw[f1] at f2;cases f2
 have hp:Go.Sort.partition (ltOf cf) d a b pv=if c>n then (n,true,Go.Sort.swp o n a) else ((Go.Sort.partLoop (ltOf cf) a (c+1) (n-1) (Go.Sort.swp o c n)).1,false,Go.Sort.swp (Go.Sort.partLoop (ltOf cf) a (c+1) (n-1) (Go.Sort.swp o c n)).2 (Go.Sort.partLoop (ltOf cf) a (c+1) (n-1) (Go.Sort.swp o c n)).1 a):=by
  rw[H,I,af,ah,ag];rfl
 rw[hp];have p3:(0:Int)<=(n:Int):=om;have p4:(n:Int)<d.size:=om;by_cases J:c>n
 .have e1:(n:Int)<(c:Int):=om;have⟨V,U,T,S,Q⟩:=aj7 emb tl (d:=o) (i:=n) (j:=a) om om;rw[if_pos J];simp only[go_sem,e1,c2,c3,p3,p4,z.row,V,U,T,S,Q,zc];refine ⟨⟨_,rfl⟩,?_,λm L=>?_,?_⟩
  .have:=z.next;first|omega|(simp only[aa7];omega)
  .simp only[aa3,L,if_false];exact z.other m L
  .simp only[aa3,if_true]
 have e1:¬(n:Int)<(c:Int):=om;have ai:=ab J;have p1:(0:Int)<=(c:Int):=om;have p2:(c:Int)<d.size:=om;have M:=ac6 (i:=c) om;have w3:=bp2 (a:=n) om om;have⟨V,U,T,S,Q⟩:=aj7 emb tl (d:=o) (i:=c) (j:=n) om om;rw[if_neg J];simp only[go_sem,e1,p1,p2,p3,p4,M,w3,z.row,V,U,T,S,Q,zc];obtain ⟨F,hF⟩:∃F,F=Go.Sort.partLoop (ltOf cf) a (c+1) (n-1) (Go.Sort.swp o c n):=⟨_,rfl⟩;rw[<- hF];refine aa9 noT (λk fr t=>∃(i j:Nat) (q:Array α),fr=[(0,.slice id 0 d.size 1),(1,.int .i64 a),(4,.func (.func g) first cap),(12,.int .i64 (i:Int)),(13,.int .i64 (j:Int))]/\SO emb tl id q σ t/\q.size=d.size/\a+1<=i/\i<=j+1/\j<b/\k<=i/\Go.Sort.partLoop (ltOf cf) a i j q=F) (b+1) ⟨c+1,n-1,_,rfl,⟨?_,λm L=>?_,?_⟩,by rw[swp_size];exact aa,om,om,om,zl _,hF.symm⟩ ?_
 .have:=z.next;first|omega|(simp only[aa7];omega)
 .simp only[aa3,L,if_false];exact z.other m L
 .simp only[aa3,if_true]
 rintro k fr t hk ⟨i,j,q,rfl,z,aa,an,N,al,ak,hI⟩;simp only[go_sem]
 refine bn8 (λe f s=>e=.exit 6/\∃c:Nat,f=[(0,.slice id 0 d.size 1),(1,.int .i64 a),(4,.func (.func g) first cap),(12,.int .i64 (c:Int)),(13,.int .i64 (j:Int)),(120,.bool false)]/\SO emb tl id q σ s/\c=Go.Sort.scanUp (λx=>ltOf cf x q[a]!) q j i)
  (aa9 noT (λk2 fr u=>∃(c:Nat) (B:Frm),fr=(0,.slice id 0 d.size 1)::(1,.int .i64 a)::(4,.func (.func g) first cap)::(12,.int .i64 (c:Int))::(13,.int .i64 (j:Int))::B/\SO emb tl id q σ u/\c=i+k2/\c<=j+1/\Go.Sort.scanUp (λx=>ltOf cf x q[a]!) q j c=Go.Sort.scanUp (λx=>ltOf cf x q[a]!) q j i) (j+1-i) ⟨i,_,rfl,z,rfl,N,rfl⟩ ?_) ?_
 .rintro k2 fr u ac ⟨c,B,rfl,z,I,ae,A⟩;have Y:=ak6 emb tl (d:=q) (k:=a) om;by_cases E:c<=j
  .have K:(c:Int)<=(j:Int):=om;have d2:(0:Int)<=(c:Int):=om;have d3:(c:Int)<d.size:=om;have M:=ac6 (i:=c) om;have X:=ak6 emb tl (d:=q) (k:=c) om;have hc:=W.pc q[c]! q[a]!;simp only[go_sem,K,d2,d3,c2,c3,z.row,Y,X,zc];refine al7 W.ok hc ?_;by_cases y:cf q[c]! q[a]! < 0
   .have r:=eg5 (p:=λx=>ltOf cf x q[a]!) (d:=q) E (bn9 y);simp only[go_sem,y,M];exact ⟨om,c+1,_,rfl,z.up emb tl rfl (za _ _),om,om,by rw[<- A,r]⟩
   .have r:=bx2 (p:=λx=>ltOf cf x q[a]!) (d:=q) (i:=c) (j:=j) (λ_=>ba5 y);simp only[go_sem,y];exact ⟨c,rfl,z.up emb tl rfl (za _ _),by rw[<- A,r]⟩
  .have K:¬(c:Int)<=(j:Int):=om;have r:=bx2 (p:=λx=>ltOf cf x q[a]!) (d:=q) (i:=c) (j:=j) (λh=>absurd h E);simp only[go_sem,K];exact ⟨c,rfl,z.up emb tl rfl (za _ _),by rw[<- A,r]⟩
 rintro e f u ⟨rfl,c,rfl,z,I⟩;have⟨g1,g2,_,_⟩:=Go.Sort.scanUp_spec (λx=>ltOf cf x q[a]!) q j _ i rfl;have g2:=g2 N;simp only[go_sem]
 refine bn8 (λe f s=>e=.exit 8/\∃n:Nat,f=[(0,.slice id 0 d.size 1),(1,.int .i64 a),(4,.func (.func g) first cap),(12,.int .i64 (c:Int)),(13,.int .i64 (n:Int)),(139,.bool false)]/\SO emb tl id q σ s/\n=Go.Sort.scanDown (λx=>!ltOf cf x q[a]!) q c j)
  (aa9 noT (λk2 fr v=>∃(n:Nat) (B:Frm),fr=(0,.slice id 0 d.size 1)::(1,.int .i64 a)::(4,.func (.func g) first cap)::(12,.int .i64 (c:Int))::(13,.int .i64 (n:Int))::B/\SO emb tl id q σ v/\n+k2=j/\c<=n+1/\Go.Sort.scanDown (λx=>!ltOf cf x q[a]!) q c n=Go.Sort.scanDown (λx=>!ltOf cf x q[a]!) q c j) (j+1) ⟨j,_,rfl,z,rfl,om,rfl⟩ ?_) ?_
 .rintro k2 fr v ac ⟨n,B,rfl,z,H,ad,A⟩;have Y:=ak6 emb tl (d:=q) (k:=a) om;by_cases E:c<=n
  .have K:(c:Int)<=(n:Int):=om;have d2:(0:Int)<=(n:Int):=om;have d3:(n:Int)<d.size:=om;have M:=bp2 (a:=n) om om;have X:=ak6 emb tl (d:=q) (k:=n) om;have hc:=W.pc q[n]! q[a]!;simp only[go_sem,K,d2,d3,c2,c3,z.row,Y,X,zc];refine al7 W.ok hc ?_;by_cases y:cf q[n]! q[a]! < 0
   .have r:=bd8 (p:=λx=>!ltOf cf x q[a]!) (d:=q) (i:=c) (j:=n) (λ_=>by simp only[bn9 y,zj]);simp only[go_sem,y];exact ⟨n,rfl,z.up emb tl rfl (za _ _),by rw[<- A,r]⟩
   .have r:=ct3 (p:=λx=>!ltOf cf x q[a]!) (d:=q) (i:=c) (j:=n) om E (by simp only[ba5 y,zh]);simp only[go_sem,y,M];exact ⟨om,n-1,_,rfl,z.up emb tl rfl (za _ _),om,om,by rw[<- A,r]⟩
  .have K:¬(c:Int)<=(n:Int):=om;have r:=bd8 (p:=λx=>!ltOf cf x q[a]!) (d:=q) (i:=c) (j:=n) (λh=>absurd h E);simp only[go_sem,K];exact ⟨n,rfl,z.up emb tl rfl (za _ _),by rw[<- A,r]⟩
 rintro e f v ⟨rfl,n,rfl,z,H⟩;have⟨v1,v2,_,v4⟩:=Go.Sort.scanDown_spec (λx=>!ltOf cf x q[a]!) q c j;have⟨_,_,_,u4⟩:=Go.Sort.scanUp_spec (λx=>ltOf cf x q[a]!) q j _ i rfl;have v2:=v2 om;rw[<- I] at u4 g1 g2;rw[<- H] at v1 v2 v4
 have ab:¬c>n->c<n:=λhgt=>by
  rcases zq c n with h|h
  .exact h
  .have e:c=n:=om;have f1:=u4 om;have f2:=v4 om om;rw[<- e] at f2;rw[f1] at f2;cases f2
 rw[Go.Sort.partLoop_eq] at hI;rw[<- I] at hI;rw[<- H] at hI;have p3:(0:Int)<=(n:Int):=om;have p4:(n:Int)<d.size:=om;by_cases J:c>n
 .have e1:(n:Int)<(c:Int):=om;have⟨V,U,T,S,Q⟩:=aj7 emb tl (d:=q) (i:=n) (j:=a) om om;rw[if_pos J] at hI;rw[<- hI];simp only[go_sem,e1,c2,c3,p3,p4,z.row,V,U,T,S,Q,zc];refine ⟨⟨_,rfl⟩,?_,λm L=>?_,?_⟩
  .have:=z.next;first|omega|(simp only[aa7];omega)
  .simp only[aa3,L,if_false];exact z.other m L
  .simp only[aa3,if_true]
 have e1:¬(n:Int)<(c:Int):=om;have ai:=ab J;have p1:(0:Int)<=(c:Int):=om;have p2:(c:Int)<d.size:=om;have M:=ac6 (i:=c) om;have w3:=bp2 (a:=n) om om;have⟨V,U,T,S,Q⟩:=aj7 emb tl (d:=q) (i:=c) (j:=n) om om;rw[if_neg J] at hI;simp only[go_sem,e1,p1,p2,p3,p4,M,w3,z.row,V,U,T,S,Q,zc];refine ⟨om,c+1,n-1,Go.Sort.swp q c n,rfl,⟨?_,λm L=>?_,?_⟩,by rw[swp_size];exact aa,om,om,om,om,hI⟩
 .have:=z.next;first|omega|(simp only[aa7];omega)
 .simp only[aa3,L,if_false];exact z.other m L
 .simp only[aa3,if_true]
end
def iu3 {P:Program}{E:Nat->IV}{N n0:Nat}{fr:Frm}{σ:Store}{x:IC}{Q:Exit->Frm->Store->Prop}(I:Nat->Frm->Store->Prop)(n:Nat)(h:I 0 fr σ)
  (b:∀i fr σ,i<=n->I i fr σ->RI P E N n0 x fr σ (upQ I i n Q)):RI P E N n0 (.loop x) fr σ Q:=by
 refine cx9 (λm fr σ=>∃i,i<=n/\m=n-i/\I i fr σ) n ⟨0,zl _,rfl,h⟩ ?_;rintro m fr σ ⟨i,hi,rfl,a⟩;refine ak9 (b i fr σ hi a) ?_;intro e f s q
 cases e with
 | normal=>exact ⟨n-(i+1),by have:=q.1;omega,i+1,q.1,rfl,q.2⟩
 | _=>exact q
section
variable {α:Type} [Inhabited α] (emb:α->Int) (tl:List IV) {cf:α->α->Int} {g:Nat} {first cap:List IV} {id:Nat}
def er3 {lt:α->α->Bool}{d:Array α}{b i:Nat}(h:i<b)(hp:lt d[i]! d[i-1]! = false):Go.Sort.scanSorted lt d b i=Go.Sort.scanSorted lt d b (i+1):=by
 rw[Go.Sort.scanSorted,if_pos (by simp[h,hp])]
def cv9 {lt:α->α->Bool}{d:Array α}{b i:Nat}(h:i<b->lt d[i]! d[i-1]! = true):Go.Sort.scanSorted lt d b i=i:=by
 rw[Go.Sort.scanSorted,if_neg];intro hc;simp only[zm,decide_eq_true_eq,Bool.not_eq_true'] at hc;rw[h hc.1] at hc;exact absurd hc.2 (by decide)
def er4 (lt:α->α->Bool):∀(j:Nat) (d:Array α),(Go.Sort.shiftDown lt j d).size=d.size:=by
 intro j
 induction j with
 | zero=>intro d;rfl
 | succ j ih=>
  intro d;rw[Go.Sort.shiftDown];split
  .rfl
  .rw[ih,swp_size]
def gk4 (lt:α->α->Bool)(b:Nat):∀(n j:Nat) (d:Array α),b-j<=n->(Go.Sort.shiftUp lt b j d).size=d.size:=by
 intro n
 induction n with
 | zero=>intro j d h;rw[Go.Sort.shiftUp,if_neg om]
 | succ n ih=>
  intro j d h;rw[Go.Sort.shiftUp]
  repeat' split
  .rfl
  .rw[ih _ _ om,swp_size]
  .rfl
def gk5 (lt:α->α->Bool)(a i:Nat)(d:Array α):(Go.Sort.fixDown lt a i d).size=d.size:=by
 unfold Go.Sort.fixDown;split
 .exact er4 lt _ _
 .rfl
def iu4 (lt:α->α->Bool)(b i:Nat)(d:Array α):(Go.Sort.fixUp lt b i d).size=d.size:=by
 unfold Go.Sort.fixUp;split
 .exact gk4 lt b _ _ _ (zb _)
 .rfl
def hu5 (P:ch7 emb cf g first cap){σ:Store}(d:Array α)(a b:Nat)(al:a<b)(hb:b<=d.size)(hz:d.size<2^40)(ho:σ.obj id=zf (.row (bb6 emb tl d))) :
  Cq 258 [.slice id 0 d.size 1,.int .i64 a,.int .i64 b,.func (.func g) first cap] σ λv s=>v=.bool (Go.Sort.partialInsertionSort (ltOf cf) d a b).2/\SO emb tl id (Go.Sort.partialInsertionSort (ltOf cf) d a b).1 σ s:=by
 refine eb4 fok258 (nZ rfl) ?_;have w0:=ac6 (i:=a) om;have U:=gm5 (a:=b) (b:=a) om om;simp only[ic258,go_sem];refine ab7 (ac4 ?_);simp only[go_sem];refine ab7 (ac4 ?_);simp only[go_sem,w0];refine ab7 (ab7 (ac4 ?_));simp only[go_sem];unfold Go.Sort.partialInsertionSort;refine aj4 (iu3 (λk fr t=>∃(i:Nat) (o:Array α),fr=[(0,.slice id 0 d.size 1),(1,.int .i64 a),(2,.int .i64 b),(3,.func (.func g) first cap),(9,.int .i64 (i:Int)),(10,.int .i64 (k:Int))]/\SO emb tl id o σ t/\o.size=d.size/\a+1<=i/\i<=b/\Go.Sort.partialIns (ltOf cf) a b (5-k) i o=Go.Sort.partialIns (ltOf cf) a b 5 (a+1) d) 5 ⟨a+1,d,rfl,⟨zb _,λ_ _=>rfl,ho⟩,rfl,om,om,rfl⟩ ?_);rintro k fr t hk ⟨F,o,rfl,c,aa,ak,ad,x⟩;by_cases aj:k<5
 case neg=>
  have e5:k=5:=om;subst e5;have c5:¬((5:Nat):Int)<5:=by decide
  refine ab7 (ac4 ?_);have e0:Go.Sort.partialIns (ltOf cf) a b (5-5) F o=(o,false):=rfl;rw[e0] at x;simp only[go_sem,c5];refine ac4 ?_;simp only[go_sem];rw[<- x];exact ⟨rfl,c.next,c.other,c.row⟩
 have c5:(k:Int)<5:=om;obtain ⟨s,hs⟩:∃s,5-k=s+1:=⟨4-k,om⟩;have ai:5-(k+1)=s:=om;rw[hs,Go.Sort.partialIns_succ] at x;refine ab7 (ac4 ?_);simp only[go_sem,c5];refine ab7 (aj4 ?_)
 -- what is in order
 refine ab7 (aj4 (bn8 (λe f s=>e=.exit 2/\f=[(0,.slice id 0 d.size 1),(1,.int .i64 a),(2,.int .i64 b),(3,.func (.func g) first cap),(9,.int .i64 (Go.Sort.scanSorted (ltOf cf) o b F:Nat)),(10,.int .i64 (k:Int)),(36,.bool false)]/\SO emb tl id o σ s/\F<=Go.Sort.scanSorted (ltOf cf) o b F/\Go.Sort.scanSorted (ltOf cf) o b F<=b)
  (aa9 noT (λk2 fr u=>∃(i:Nat) (q:Frm),fr=(0,.slice id 0 d.size 1)::(1,.int .i64 a)::(2,.int .i64 b)::(3,.func (.func g) first cap)::(9,.int .i64 (i:Int))::(10,.int .i64 (k:Int))::q/\SO emb tl id o σ u/\i=F+k2/\i<=b/\Go.Sort.scanSorted (ltOf cf) o b i=Go.Sort.scanSorted (ltOf cf) o b F) (b-F) ⟨F,_,rfl,⟨c.next,c.other,c.row⟩,rfl,ad,rfl⟩ ?_) ?_))
 .rintro k2 fr u ac ⟨i,q,rfl,c,hi,ad,x⟩;by_cases D:i<b
  .have N:(i:Int)<(b:Int):=om;have E:(0:Int)<=(i:Int):=om;have M:(i:Int)<d.size:=om;have L:(0:Int)<=((i-1:Nat):Int):=om;have K:((i-1:Nat):Int)<d.size:=om;have w1:=bp2 (a:=i) om om;have w2:=ac6 (i:=i) om;have x1:=ak6 emb tl (d:=o) (k:=i) om;have x2:=ak6 emb tl (d:=o) (k:=i-1) om;have hc:=P.pc o[i]! o[i-1]!;simp only[go_sem,N,E,M,L,K,w1,c.row,x1,x2,zc];refine al7 P.ok hc ?_;by_cases p:cf o[i]! o[i-1]! < 0
   .have A:=cv9 (lt:=ltOf cf) (d:=o) (b:=b) (i:=i) (λ_=>bn9 p);rw[A] at x;simp only[go_sem,p];refine ⟨by rw[x],c.up emb tl rfl (za _ _),om,om⟩
   .have A:=er3 (lt:=ltOf cf) (d:=o) D (ba5 p);simp only[go_sem,p,w2];exact ⟨om,i+1,_,rfl,c.up emb tl rfl (za _ _),om,om,by rw[<- x,A]⟩
  .have N:¬(i:Int)<(b:Int):=om;have A:=cv9 (lt:=ltOf cf) (d:=o) (b:=b) (i:=i) (λh=>absurd h D);rw[A] at x;simp only[go_sem,N];refine ⟨by rw[x],c.up emb tl rfl (za _ _),om,om⟩
 rintro e f u ⟨rfl,rfl,c,g1,g2⟩;generalize Go.Sort.scanSorted (ltOf cf) o b F=i at *;simp only[go_sem];refine ab7 (ac4 ?_);by_cases H:i=b
 .have N:(i:Int)=(b:Int):=om;rw[if_pos H] at x;simp only[go_sem,N];rw[<- x];exact ⟨rfl,c.next,c.other,c.row⟩
 have N:¬(i:Int)=(b:Int):=om;rw[if_neg H] at x;simp only[go_sem,N];refine ab7 (ac4 ?_);by_cases ae:b-a<50
 .have E:((b-a:Nat):Int)<50:=om;rw[if_pos ae] at x;simp only[go_sem,U,E];rw[<- x];exact ⟨rfl,c.next,c.other,c.row⟩
 have E:¬((b-a:Nat):Int)<50:=om;rw[if_neg ae] at x;simp only[go_sem,U,E];have p1:(0:Int)<=(i:Int):=om;have p2:(i:Int)<d.size:=om;have p3:(0:Int)<=((i-1:Nat):Int):=om;have p4:((i-1:Nat):Int)<d.size:=om;have w1:=bp2 (a:=i) om om;have⟨J,I,Y,X,W⟩:=aj7 emb tl (d:=o) (i:=i) (j:=i-1) om om;refine ab7 (ac4 ?_);simp only[go_sem,p1,p2,p3,p4,w1,c.row,J,I,Y,X,W,zc]
 -- the lesser one to the left
 refine ab7 (ak9 (Q:=λe f s=>e=.normal/\(∃q:Frm,f=(0,.slice id 0 d.size 1)::(1,.int .i64 a)::(2,.int .i64 b)::(3,.func (.func g) first cap)::(9,.int .i64 (i:Int))::(10,.int .i64 (k:Int))::q)/\SO emb tl id (Go.Sort.fixDown (ltOf cf) a i (Go.Sort.swp o i (i-1))) σ s) (ac4 ?_) ?_)
 .have S:=gm5 (a:=i) (b:=a) om om;by_cases h2:i-a≥2
  .have e1:(2:Int)<=((i-a:Nat):Int):=om;have y:Go.Sort.fixDown (ltOf cf) a i (Go.Sort.swp o i (i-1))=Go.Sort.shiftDown (ltOf cf) (i-1) (Go.Sort.swp o i (i-1)):=by unfold Go.Sort.fixDown;rw[if_pos h2]
   rw[y];simp only[go_sem,S,e1,w1];refine aa9 noT (λk2 fr u=>∃(j:Nat) (r:Array α) (q:Frm),fr=(0,.slice id 0 d.size 1)::(1,.int .i64 a)::(2,.int .i64 b)::(3,.func (.func g) first cap)::(9,.int .i64 (i:Int))::(10,.int .i64 (k:Int))::(11,.int .i64 (j:Int))::q/\SO emb tl id r σ u/\r.size=d.size/\j+k2=i-1/\Go.Sort.shiftDown (ltOf cf) j r=Go.Sort.shiftDown (ltOf cf) (i-1) (Go.Sort.swp o i (i-1))) i ⟨i-1,_,_,rfl,⟨by (have:=c.next;first|omega|(simp only[aa7];omega)),λm B=>by simp only[aa3,B,if_false];exact c.other m B,by simp only[aa3,if_true]⟩,by rw[swp_size];exact aa,rfl,rfl⟩ ?_;rintro k2 fr u ac ⟨j,r,q,rfl,c,z,hj,n⟩
   cases j with
   | zero=>
    have e2:Go.Sort.shiftDown (ltOf cf) 0 r=r:=rfl;have e3:¬(1:Int)<=((0:Nat):Int):=by decide
    have e0:(((0:Nat):Int))=0:=rfl;have e4:¬(1:Int)<=0:=by decide
    rw[e2] at n;simp only[go_sem,e0,e4];rw[<- n]
    exact ⟨⟨_,rfl⟩,c.next,c.other,c.row⟩
   | succ j=>
    have e3:(1:Int)<=((j+1:Nat):Int):=om;have E:(0:Int)<=((j+1:Nat):Int):=om;have M:((j+1:Nat):Int)<d.size:=om;have L:(0:Int)<=(j:Int):=om;have K:(j:Int)<d.size:=om;have V:IntKind.i64.wrap (((j+1:Nat):Int)-1)=(j:Int):=by rw[wrap64 om om];omega
    have hc:=P.pc r[j+1]! r[j]!;have⟨J,I,Y,X,W⟩:=aj7 emb tl (d:=r) (i:=j+1) (j:=j) om om;rw[Go.Sort.shiftDown] at n;simp only[go_sem,e3,E,M,L,K,V,c.row,J,I,zc];refine al7 P.ok hc ?_;by_cases p:cf r[j+1]! r[j]! < 0
    .rw[bn9 p] at n;simp only[zj,zu,if_false] at n;simp only[go_sem,p,E,M,L,K,V,c.row,J,I,Y,X,W,zc];exact ⟨om,j,Go.Sort.swp r (j+1) j,_,rfl,⟨by (have:=c.next;first|omega|(simp only[aa7];omega)),λm B=>by simp only[aa3,B,if_false];exact c.other m B,by simp only[aa3,if_true]⟩,by rw[swp_size];exact z,om,n⟩
    .rw[ba5 p] at n;simp only[zh,if_true] at n;simp only[go_sem,p];rw[<- n];exact ⟨⟨_,rfl⟩,c.up emb tl rfl (za _ _)⟩
  .have e1:¬(2:Int)<=((i-a:Nat):Int):=om;have y:Go.Sort.fixDown (ltOf cf) a i (Go.Sort.swp o i (i-1))=Go.Sort.swp o i (i-1):=by unfold Go.Sort.fixDown;rw[if_neg h2]
   rw[y];simp only[go_sem,S,e1];exact ⟨⟨_,rfl⟩,⟨by (have:=c.next;first|omega|(simp only[aa7];omega)),λm B=>by simp only[aa3,B,if_false];exact c.other m B,by simp only[aa3,if_true]⟩⟩
 rintro e f u2 ⟨rfl,⟨q,rfl⟩,c⟩;have ab:(Go.Sort.fixDown (ltOf cf) a i (Go.Sort.swp o i (i-1))).size=d.size:=by rw[gk5,swp_size];exact aa
 generalize Go.Sort.fixDown (ltOf cf) a i (Go.Sort.swp o i (i-1))=D1 at *;simp only[go_sem]
 -- the greater one to the right
 refine ak9 (Q:=λe f s=>e=.normal/\(∃q:Frm,f=(0,.slice id 0 d.size 1)::(1,.int .i64 a)::(2,.int .i64 b)::(3,.func (.func g) first cap)::(9,.int .i64 (i:Int))::(10,.int .i64 (k:Int))::q)/\SO emb tl id (Go.Sort.fixUp (ltOf cf) b i D1) σ s) (ac4 ?_) ?_
 .have T:=gm5 (a:=b) (b:=i) om om;by_cases h2:b-i≥2
  .have e1:(2:Int)<=((b-i:Nat):Int):=om;have af:=ac6 (i:=i) om;have y:Go.Sort.fixUp (ltOf cf) b i D1=Go.Sort.shiftUp (ltOf cf) b (i+1) D1:=by unfold Go.Sort.fixUp;rw[if_pos h2]
   rw[y];simp only[go_sem,T,e1,af];refine aa9 noT (λk2 fr u=>∃(j:Nat) (r:Array α) (q:Frm),fr=(0,.slice id 0 d.size 1)::(1,.int .i64 a)::(2,.int .i64 b)::(3,.func (.func g) first cap)::(9,.int .i64 (i:Int))::(10,.int .i64 (k:Int))::(12,.int .i64 (j:Int))::q/\SO emb tl id r σ u/\r.size=d.size/\j=i+1+k2/\Go.Sort.shiftUp (ltOf cf) b j r=Go.Sort.shiftUp (ltOf cf) b (i+1) D1) b ⟨i+1,_,_,rfl,c.up emb tl rfl (zb _),ab,rfl,rfl⟩ ?_;rintro k2 fr u ac ⟨j,r,q,rfl,c,z,hj,n⟩;by_cases D:j<b
   .have e3:(j:Int)<(b:Int):=om;have E:(0:Int)<=(j:Int):=om;have M:(j:Int)<d.size:=om;have L:(0:Int)<=((j-1:Nat):Int):=om;have K:((j-1:Nat):Int)<d.size:=om;have V:=bp2 (a:=j) om om;have w4:=ac6 (i:=j) om;have hc:=P.pc r[j]! r[j-1]!;have⟨J,I,Y,X,W⟩:=aj7 emb tl (d:=r) (i:=j) (j:=j-1) om om;rw[Go.Sort.shiftUp,if_pos D] at n;simp only[go_sem,e3,E,M,L,K,V,c.row,J,I,zc];refine al7 P.ok hc ?_;by_cases p:cf r[j]! r[j-1]! < 0
    .rw[bn9 p] at n;simp only[zj,zu,if_false] at n;simp only[go_sem,p,E,M,L,K,V,w4,c.row,J,I,Y,X,W,zc];exact ⟨om,j+1,Go.Sort.swp r j (j-1),_,rfl,⟨by (have:=c.next;first|omega|(simp only[aa7];omega)),λm B=>by simp only[aa3,B,if_false];exact c.other m B,by simp only[aa3,if_true]⟩,by rw[swp_size];exact z,om,n⟩
    .rw[ba5 p] at n;simp only[zh,if_true] at n;simp only[go_sem,p];rw[<- n];exact ⟨⟨_,rfl⟩,c.up emb tl rfl (za _ _)⟩
   .have e3:¬(j:Int)<(b:Int):=om;rw[Go.Sort.shiftUp,if_neg D] at n;simp only[go_sem,e3];rw[<- n];exact ⟨⟨_,rfl⟩,c.next,c.other,c.row⟩
  .have e1:¬(2:Int)<=((b-i:Nat):Int):=om;have y:Go.Sort.fixUp (ltOf cf) b i D1=D1:=by unfold Go.Sort.fixUp;rw[if_neg h2]
   rw[y];simp only[go_sem,T,e1];exact ⟨⟨_,rfl⟩,c.next,c.other,c.row⟩
 rintro e f u3 ⟨rfl,⟨ag,rfl⟩,c⟩;have ah:(Go.Sort.fixUp (ltOf cf) b i D1).size=d.size:=by rw[iu4];exact ab
 have wk:=ac6 (i:=k) om;simp only[go_sem];refine ac4 ?_;simp only[go_sem,wk];exact ⟨om,i,_,rfl,c.up emb tl rfl (zb _),ah,om,g2,by rw[ai];exact x⟩
end
section
variable {α:Type} [Inhabited α] (emb:α->Int) (tl:List IV) {cf:α->α->Int} {g:Nat} {first cap:List IV} {id:Nat}
def SKp.up {d:Array α}{σ u v:Store}(h:SKp emb tl id d σ u)(a:v.obj=u.obj)(c:u.next<=v.next):SKp emb tl id d σ v:=⟨ze h.next c,λi hi b=>by rw[a];exact h.other i hi b,by rw[a];exact h.row⟩
def kv3 (hC:ch7 emb cf g first cap)(hO:Go.Sort.SWO (ltOf cf)):∀(N a b lim:Nat) (d:Array α) (σ:Store),b-a<N->a<=b->b<=d.size->d.size<256->lim<2^40->Go.Sort.Below (ltOf cf) a b d->id<σ.next->σ.obj id=zf (.row (bb6 emb tl d)) ->
  Cq 206 [.slice id 0 d.size 1,.int .i64 a,.int .i64 b,.int .i64 lim,.func (.func g) first cap] σ λv s=>v=.tuple []/\∃d',Go.Sort.PermIn a b d d'/\Go.Sort.SortedIn (ltOf cf) a b d'/\SKp emb tl id d' σ s:=by
 intro N
 induction N with
 | zero=>intro a b lim d σ h;exact absurd h (Nat.not_lt_zero _)
 | succ N ih=>
 intro a b lim d σ hN hab hb hz hlim hB hid ho;refine eb4 fok206 (nZ rfl) ?_;simp only[ic206,go_sem];refine ab7 (ac4 ?_);simp only[go_sem];refine ab7 (ac4 ?_);simp only[go_sem];refine aj4 (cx9 (λm fr t=>∃(a' b' lim':Nat) (wb wp:Bool) (dk:Array α),fr=[(0,.slice id 0 d.size 1),(1,.int .i64 a'),(2,.int .i64 b'),(3,.int .i64 lim'),(4,.func (.func g) first cap),(10,.bool wb),(11,.bool wp)]/\m=b'-a'/\a<=a'/\a'<=b'/\b'<=b/\lim'<=lim/\dk.size=d.size/\Go.Sort.Below (ltOf cf) a' b' dk/\SKp emb tl id dk σ t/\∀R,Go.Sort.PermIn a' b' dk R->Go.Sort.SortedIn (ltOf cf) a' b' R->Go.Sort.PermIn a b d R/\Go.Sort.SortedIn (ltOf cf) a b R) (b-a) ⟨a,b,lim,true,true,d,rfl,rfl,zb _,hab,zb _,zb _,rfl,hB,⟨zb _,λ_ _ _=>rfl,ho⟩,λR h1 h2=>⟨h1,h2⟩⟩ ?_);rintro m fr t ⟨a',b',lim',wb,wp,dk,rfl,rfl,haa,hab',hbb,hll,hsz,hB,hS,hF⟩;have hidt:id<t.next:=zd hid hS.next;have wlen:=gm5 (a:=b') (b:=a') hab' om;refine aj4 (ab7 (ac4 ?_));simp only[go_sem,wlen]
 -- few
 refine ab7 (ac4 ?_);by_cases h12:b'-a'<=12
 .have c1:((b'-a':Nat):Int)<=12:=om;have hi:=hs9 emb tl hC dk a' b' hab' om om hS.row;rw[hsz] at hi;simp only[go_sem,c1];refine ab8 fok253 hi ?_;rintro v s ⟨rfl,h1⟩;refine ⟨h1.next,?_⟩;have⟨q1,q2⟩:=Go.Sort.insertionSort_holds hO dk a' b' hab' om;have⟨f1,f2⟩:=hF _ q1 q2;simp only[go_sem];exact ⟨_,f1,f2,hS.trans emb tl h1.kp⟩
 have c1:¬((b'-a':Nat):Int)<=12:=om;simp only[go_sem,c1]
 -- the heap
 refine ab7 (ac4 ?_);by_cases h0:lim'=0
 .have c2:((lim':Nat):Int)=0:=om;have hi:=gk2 emb tl hC dk a' b' om om om hS.row;rw[hsz] at hi;simp only[go_sem,c2];refine ab8 fok254 hi ?_;rintro v s ⟨rfl,h1⟩;refine ⟨h1.next,?_⟩;have⟨q1,q2⟩:=Go.Sort.heapSort_holds hO dk a' b' hab' om;have⟨f1,f2⟩:=hF _ q1 q2;simp only[go_sem];exact ⟨_,f1,f2,hS.trans emb tl h1.kp⟩
 have c2:¬((lim':Nat):Int)=0:=om;simp only[go_sem,c2]
 -- patterns
 refine ab7 (ak9 (Q:=λe f s=>e=.normal/\∃(lim2:Nat) (rst:Frm) (dj:Array α),f=(0,.slice id 0 d.size 1)::(1,.int .i64 a')::(2,.int .i64 b')::(3,.int .i64 lim2)::(4,.func (.func g) first cap)::(10,.bool wb)::(11,.bool wp)::(12,.int .i64 (b'-a':Nat))::rst/\lim2<=lim/\Go.Sort.PermIn a' b' dk dj/\SKp emb tl id dj σ s) (ac4 ?_) ?_)
 .cases wb with
  | true=>
   simp only[go_sem]
   exact ⟨lim',_,dk,rfl,hll,Go.Sort.permIn_refl dk a' b',hS.up emb tl rfl (zb _)⟩
  | false=>
   have hi:=jq9 emb tl dk a' b' (.func (.func g) first cap) om om om hidt hS.row;rw[hsz] at hi;have wl:=bp2 (a:=lim') om om;simp only[go_sem];refine ab8 fok255 hi ?_;rintro v s ⟨rfl,dj,hp,h1⟩;refine ⟨h1.next,?_⟩;simp only[go_sem,wl];exact ⟨lim'-1,_,dj,rfl,om,hp,(hS.trans emb tl h1).up emb tl rfl (zb _)⟩
 rintro e f t ⟨rfl,lim2,rst,d2,rfl,hl2,hP2,hS2⟩;have hs2:d2.size=d.size:=by rw[hP2.1];exact hsz
 have hid2:id<t.next:=zd hid hS2.next;clear c1 c2 wlen hS hidt;simp only[go_sem]
 -- the pivot
 refine ab7 (ac4 ?_);have hch:=it8 emb tl hC d2 a' b' om om om hid2 hS2.row;rw[hs2] at hch;simp only[go_sem];refine ab8 fok256 hch ?_;rintro v t3 ⟨⟨pv,hh,rfl,hp1,hp2⟩,h3⟩;refine ⟨h3.next,?_⟩;have hS3:=hS2.trans emb tl h3;have hid3:id<t3.next:=zd hid hS3.next;clear h3;simp only[go_sem];refine ab7 (ak9 (Q:=λe f s=>e=.normal/\∃(pv:Nat) (hh:Int) (rst:Frm) (dj:Array α),f=(0,.slice id 0 d.size 1)::(1,.int .i64 a')::(2,.int .i64 b')::(3,.int .i64 lim2)::(4,.func (.func g) first cap)::(10,.bool wb)::(11,.bool wp)::(12,.int .i64 (b'-a':Nat))::(13,.int .i64 pv)::(14,.int .i64 hh)::rst/\a'<=pv/\pv<b'/\Go.Sort.PermIn a' b' dk dj/\SKp emb tl id dj σ s) (ac4 ?_) ?_)
 .by_cases e2:hh=2
  .have hrv:=ht6 emb tl d2 a' b' (.func (.func g) first cap) (f:=[]) om om om hS3.row;rw[hs2] at hrv;have w1:=bp2 (a:=b') om om;have w2:=gm5 (a:=pv) (b:=a') hp1 om;have w3:=gm5 (a:=b'-1) (b:=pv-a') om om;simp only[go_sem,e2];refine ab8 fok257 hrv ?_;rintro v s ⟨rfl,h1⟩;refine ⟨h1.next,?_⟩;simp only[go_sem,w1,w2,w3];exact ⟨_,_,_,_,rfl,om,om,Go.Sort.permIn_trans _ _ _ a' b' hP2 (Go.Sort.reverseRange_holds d2 a' b' hab' om),(hS3.trans emb tl h1.kp).up emb tl rfl (zb _)⟩
  .simp only[go_sem,e2];exact ⟨_,_,_,_,rfl,hp1,hp2,hP2,hS3.up emb tl rfl (zb _)⟩
 clear hS3 hid3 hp1 hp2 pv hh hch;rintro e f t ⟨rfl,pv,hh,rst,d3,rfl,hp1,hp2,hP3,hS3⟩;have hs3:d3.size=d.size:=by rw[hP3.1];exact hsz
 clear hP2 hS2 hs2 hid2;simp only[go_sem]
 -- nearly in order
 refine ab7 (ak9 (Q:=λe f s=>(e=.ret/\∃dj,Go.Sort.PermIn a' b' dk dj/\Go.Sort.SortedIn (ltOf cf) a' b' dj/\SKp emb tl id dj σ s)\/(e=.normal/\∃(rst:Frm) (dj:Array α),f=(0,.slice id 0 d.size 1)::(1,.int .i64 a')::(2,.int .i64 b')::(3,.int .i64 lim2)::(4,.func (.func g) first cap)::(10,.bool wb)::(11,.bool wp)::(12,.int .i64 (b'-a':Nat))::(13,.int .i64 pv)::rst/\Go.Sort.PermIn a' b' dk dj/\SKp emb tl id dj σ s)) (ac4 ?_) ?_)
 .by_cases hgo:(wb=true/\wp=true)/\hh=1
  .obtain ⟨⟨rfl,rfl⟩,e1⟩:=hgo;have hpi:=hu5 emb tl hC d3 a' b' om om om hS3.row;rw[hs3] at hpi;have hB3:=hB.perm om hP3;have⟨q1,q2⟩:=Go.Sort.partialInsertionSort_holds hO d3 a' b' om om hB3;simp only[go_sem,e1];refine ab8 fok258 hpi ?_;rintro v s ⟨rfl,h1⟩;refine ⟨h1.next,?_⟩;generalize Go.Sort.partialInsertionSort (ltOf cf) d3 a' b'=pr at *;have⟨dp,bp⟩:=pr
   cases bp with
   | true=>
    simp only[go_sem]
    first|exact .inl ⟨rfl,dp,Go.Sort.permIn_trans _ _ _ a' b' hP3 q1,q2 rfl,hS3.trans emb tl h1.kp⟩|exact .inl ⟨trivial,dp,Go.Sort.permIn_trans _ _ _ a' b' hP3 q1,q2 rfl,hS3.trans emb tl h1.kp⟩|exact .inl ⟨dp,Go.Sort.permIn_trans _ _ _ a' b' hP3 q1,q2 rfl,hS3.trans emb tl h1.kp⟩|exact ⟨dp,Go.Sort.permIn_trans _ _ _ a' b' hP3 q1,q2 rfl,hS3.trans emb tl h1.kp⟩
   | false=>
    simp only[go_sem]
    first|exact .inr ⟨rfl,_,dp,rfl,Go.Sort.permIn_trans _ _ _ a' b' hP3 q1,(hS3.trans emb tl h1.kp).up emb tl rfl (zb _)⟩|exact .inr ⟨trivial,_,dp,rfl,Go.Sort.permIn_trans _ _ _ a' b' hP3 q1,(hS3.trans emb tl h1.kp).up emb tl rfl (zb _)⟩|exact .inr ⟨_,dp,rfl,Go.Sort.permIn_trans _ _ _ a' b' hP3 q1,(hS3.trans emb tl h1.kp).up emb tl rfl (zb _)⟩|exact ⟨_,dp,rfl,Go.Sort.permIn_trans _ _ _ a' b' hP3 q1,(hS3.trans emb tl h1.kp).up emb tl rfl (zb _)⟩
  .have hsk:(wb&&wp&&decide (hh=1))=false:=by
    cases wb<;>cases wp<;>simp at hgo ⊢;exact hgo
   cases wb with
   | false=>
    simp only[go_sem]
    first|exact .inr ⟨rfl,_,d3,rfl,hP3,hS3.up emb tl rfl (zb _)⟩|exact .inr ⟨trivial,_,d3,rfl,hP3,hS3.up emb tl rfl (zb _)⟩|exact .inr ⟨_,d3,rfl,hP3,hS3.up emb tl rfl (zb _)⟩|exact ⟨_,d3,rfl,hP3,hS3.up emb tl rfl (zb _)⟩
   | true=>
    cases wp with
    | false=>
     simp only[go_sem]
     first|exact .inr ⟨rfl,_,d3,rfl,hP3,hS3.up emb tl rfl (zb _)⟩|exact .inr ⟨trivial,_,d3,rfl,hP3,hS3.up emb tl rfl (zb _)⟩|exact .inr ⟨_,d3,rfl,hP3,hS3.up emb tl rfl (zb _)⟩|exact ⟨_,d3,rfl,hP3,hS3.up emb tl rfl (zb _)⟩
    | true=>
     have e1:¬hh=1:=by simpa using hsk
     simp only[go_sem,e1]
     first|exact .inr ⟨rfl,_,d3,rfl,hP3,hS3.up emb tl rfl (zb _)⟩|exact .inr ⟨trivial,_,d3,rfl,hP3,hS3.up emb tl rfl (zb _)⟩|exact .inr ⟨_,d3,rfl,hP3,hS3.up emb tl rfl (zb _)⟩|exact ⟨_,d3,rfl,hP3,hS3.up emb tl rfl (zb _)⟩
 rintro e f t4 (⟨rfl,dj,q1,q2,hS⟩|⟨rfl,rst,d4,rfl,hP4,hS4⟩)
 .have⟨f1,f2⟩:=hF _ q1 q2;simp only[go_sem];exact ⟨_,f1,f2,hS⟩
 have hs4:d4.size=d.size:=by rw[hP4.1];exact hsz
 have hB4:=hB.perm om hP4;have hF4:∀R,Go.Sort.PermIn a' b' d4 R->Go.Sort.SortedIn (ltOf cf) a' b' R->Go.Sort.PermIn a b d R/\Go.Sort.SortedIn (ltOf cf) a b R:=λR h1 h2=>hF R (Go.Sort.permIn_trans _ _ _ a' b' hP4 h1) h2
 have hid4:id<t4.next:=zd hid hS4.next;clear hP3 hS3 hs3 hP4 hF hB;simp only[go_sem]
 -- many that are the same
 have z1:(0:Int)<=(pv:Int):=om;have z2:(pv:Int)<d.size:=om;have xp:=ak6 emb tl (d:=d4) (k:=pv) om;refine ab7 (ak9 (Q:=λe f s=>(e=.exit 1/\∃(mid:Nat) (dj:Array α),f=[(0,.slice id 0 d.size 1),(1,.int .i64 mid),(2,.int .i64 b'),(3,.int .i64 lim2),(4,.func (.func g) first cap),(10,.bool wb),(11,.bool wp)]/\a'<mid/\mid<=b'/\dj.size=d.size/\Go.Sort.Below (ltOf cf) mid b' dj/\SKp emb tl id dj σ s/\∀R,Go.Sort.PermIn mid b' dj R->Go.Sort.SortedIn (ltOf cf) mid b' R->Go.Sort.PermIn a b d R/\Go.Sort.SortedIn (ltOf cf) a b R)\/(e=.normal/\∃(rst:Frm),f=(0,.slice id 0 d.size 1)::(1,.int .i64 a')::(2,.int .i64 b')::(3,.int .i64 lim2)::(4,.func (.func g) first cap)::(10,.bool wb)::(11,.bool wp)::(12,.int .i64 (b'-a':Nat))::(13,.int .i64 pv)::rst/\SKp emb tl id d4 σ s)) (ac4 ?_) ?_)
 .by_cases ha0:0<a'
  .have y0:(0:Int)<(a':Int):=om;have y1:(0:Int)<=((a'-1:Nat):Int):=om;have y2:((a'-1:Nat):Int)<d.size:=om;have w1:=bp2 (a:=a') om om;have xa:=ak6 emb tl (d:=d4) (k:=a'-1) om;have hc:=hC.pc d4[a'-1]! d4[pv]!;simp only[go_sem,y0,y1,y2,z1,z2,w1,hS4.row,xa,xp,zc];refine al7 hC.ok hc ?_;by_cases hcf:cf d4[a'-1]! d4[pv]! < 0
   .simp only[go_sem,hcf]
    first|exact .inr ⟨rfl,_,rfl,hS4.up emb tl rfl (za _ _)⟩|exact .inr ⟨trivial,_,rfl,hS4.up emb tl rfl (za _ _)⟩|exact .inr ⟨_,rfl,hS4.up emb tl rfl (za _ _)⟩|exact ⟨_,rfl,hS4.up emb tl rfl (za _ _)⟩
   .obtain ⟨mid,d5,hx⟩:∃mid d5,Go.Sort.partitionEqual (ltOf cf) d4 a' b' pv=(mid,d5):=⟨_,_,rfl⟩;have hpe:=λU (h:SKp emb tl id d4 σ U)=>iu2 emb tl hC (σ:=U) d4 a' b' pv hp1 hp2 om om h.row
    rw[hs4,hx] at hpe;have hpe2:=λU (h:SKp emb tl id d4 σ U)=>(hpe U h).mono (Q':=λv s=>v=.int .i64 mid/\U.next<=s.next/\SKp emb tl id d5 σ s) λv s ⟨e,h1⟩=>⟨e,h1.next,h.trans emb tl h1.kp⟩
    simp only[go_sem,hcf];refine ab8 fok259 (hpe2 _ (hS4.up emb tl rfl (za _ _))) ?_;rintro v s ⟨rfl,h1n,h1⟩;refine ⟨h1n,?_⟩;have⟨r1,r2,r3,r4,r5⟩:=Go.Sort.round_eq hO (Go.Sort.partitionEqual_holds (ltOf cf)) ha0 hp1 hp2 om hB4 (ba5 hcf) hx;simp only[go_sem]
    first|exact .inl ⟨rfl,mid,d5,rfl,r1,r2,r3.trans hs4,r4,h1.up emb tl rfl (zb _),λR k1 k2=>hF4 R (r5 R k1 k2).1 (r5 R k1 k2).2⟩|exact .inl ⟨trivial,mid,d5,rfl,r1,r2,r3.trans hs4,r4,h1.up emb tl rfl (zb _),λR k1 k2=>hF4 R (r5 R k1 k2).1 (r5 R k1 k2).2⟩|exact .inl ⟨mid,d5,rfl,r1,r2,r3.trans hs4,r4,h1.up emb tl rfl (zb _),λR k1 k2=>hF4 R (r5 R k1 k2).1 (r5 R k1 k2).2⟩
  .have y0:¬(0:Int)<(a':Int):=om;simp only[go_sem,y0]
   first|exact .inr ⟨rfl,_,rfl,hS4.up emb tl rfl (za _ _)⟩|exact .inr ⟨trivial,_,rfl,hS4.up emb tl rfl (za _ _)⟩|exact .inr ⟨_,rfl,hS4.up emb tl rfl (za _ _)⟩|exact ⟨_,rfl,hS4.up emb tl rfl (za _ _)⟩
 rintro e f t5 (⟨rfl,mid,d5,rfl,m1,m2,m3,m4,m5,m6⟩|⟨rfl,rst,rfl,hS5⟩)
 .simp only[go_sem];exact ⟨b'-mid,om,mid,b',lim2,wb,wp,d5,rfl,rfl,om,m2,hbb,hl2,m3,m4,m5,m6⟩
 have hid5:id<t5.next:=zd hid hS5.next;clear xp z1 z2 hid4 hS4;simp only[go_sem]
 -- parted
 have hpt:=kh8 emb tl hC (σ:=t5) d4 a' b' pv hp1 hp2 om om hS5.row;obtain ⟨mid,ap0,d6,hx⟩:∃mid ap0 d6,Go.Sort.partition (ltOf cf) d4 a' b' pv=(mid,ap0,d6):=⟨_,_,_,rfl⟩;rw[hs4,hx] at hpt;refine ab7 (ac4 ?_);simp only[go_sem];refine ab8 fok260 hpt ?_;rintro v t6 ⟨⟨ap,rfl⟩,h6⟩;refine ⟨h6.next,?_⟩;have⟨r1,r2,r3,r4,r5,r6,r7⟩:=Go.Sort.round_part hO (Go.Sort.partition_holds (ltOf cf)) hp1 hp2 (show b'<=d4.size by omega) hB4 hx;have hS6:=hS5.trans emb tl h6.kp;have hid6:id<t6.next:=zd hid hS6.next;clear h6 hS5;have hs6:d6.size=d.size:=r3.trans hs4;have w1:=gm5 (a:=mid) (b:=a') r1 om;have w2:=gm5 (a:=b') (b:=mid) om om;have n8:¬((8:Int)=0):=by decide
 have w3:IntKind.i64.wrap (((b'-a':Nat):Int).tdiv 8)=(((b'-a')/8:Nat):Int):=by
  have:((b'-a':Nat):Int).tdiv 8=(((b'-a')/8:Nat):Int):=by rw[zi om];omega
  rw[this,wrap64 om om]
 have w4:=ac6 (i:=mid) om;simp only[go_sem];refine ab7 (ac4 ?_);simp only[go_sem];refine ab7 (ac4 ?_);simp only[go_sem,w1,w2];refine ab7 (ac4 ?_);simp only[go_sem,n8,w3];refine ab7 (ac4 ?_);simp only[go_sem];by_cases hlr:mid-a'<b'-mid
 .have c3:((mid-a':Nat):Int)<((b'-mid:Nat):Int):=om;have hih:=λU (h:SKp emb tl id d6 σ U)=>ih a' mid lim2 d6 U om r1 om om om r4 (zd hid h.next) h.row
  rw[hs6] at hih;refine ac4 ?_;simp only[go_sem,c3];refine ab8 fok206 (hih _ (hS6.up emb tl rfl (zb _))) ?_;rintro v t7 ⟨rfl,d7,k1,k2,h7⟩;refine ⟨h7.next,?_⟩;have⟨g1,g2⟩:=r6 d7 k1 k2;have hS7:=(hS6.up emb tl (v:=t6) rfl (zb _)).trans emb tl h7;simp only[go_sem,w4];exact ⟨b'-(mid+1),om,mid+1,b',lim2,_,ap,d7,rfl,rfl,om,om,hbb,hl2,by rw[k1.1];exact hs6,g1,hS7.up emb tl rfl (zb _),λR h1 h2=>hF4 R (g2 R h1 h2).1 (g2 R h1 h2).2⟩
 .have c3:¬((mid-a':Nat):Int)<((b'-mid:Nat):Int):=om;have hih:=λU (h:SKp emb tl id d6 σ U)=>ih (mid+1) b' lim2 d6 U om om om om om r5 (zd hid h.next) h.row
  rw[hs6] at hih;refine ac4 ?_;simp only[go_sem,c3,w4];refine ab8 fok206 (hih _ (hS6.up emb tl rfl (zb _))) ?_;rintro v t7 ⟨rfl,d7,k1,k2,h7⟩;refine ⟨h7.next,?_⟩;have⟨g1,g2⟩:=r7 d7 k1 k2;have hS7:=(hS6.up emb tl (v:=t6) rfl (zb _)).trans emb tl h7;simp only[go_sem];exact ⟨mid-a',om,a',mid,lim2,_,ap,d7,rfl,rfl,om,om,om,hl2,by rw[k1.1];exact hs6,g1,hS7.up emb tl rfl (zb _),λR h1 h2=>hF4 R (g2 R h1 h2).1 (g2 R h1 h2).2⟩
def dx9 (k:ch7 emb cf g first cap)(j:Go.Sort.SWO (ltOf cf)){σ:Store}(d:Array α)(b:d.size<256)(c:id<σ.next)(i:σ.obj id=zf (.row (bb6 emb tl d))) :
  Cq 150 [.slice id 0 d.size 1,.func (.func g) first cap] σ λv s=>v=.tuple []/\∃a,Go.Sort.PermIn 0 d.size d a/\Go.Sort.SortedIn (ltOf cf) 0 d.size a/\SKp emb tl id a σ s:=by
 refine C_f fok150 (nZ rfl) ?_
 have w0:IntKind.u64.wrap (d.size:Int)=d.size:=by
  show (d.size:Int)%18446744073709551616=d.size;omega
 simp only[ic150,go_sem,w0];refine aa4 fok190 (hu4 d.size b) ?_;simp only[go_sem];have m:=(ch9 d.size b).1;refine ab8 fok206 (kv3 emb tl k j (d.size+1) 0 d.size _ d σ om (zl _) (zb _) b om (.inl rfl) c i) ?_;rintro v s ⟨rfl,hs⟩;have⟨a,h,f,e⟩:=hs;refine ⟨e.next,?_⟩;simp only[go_sem];exact ⟨a,h,f,e⟩
end
open Go Go.Id Go.Proofs Go.Shelf Go.Id.Md
def iu5 (σ:Store):Cq 147 [.aa2 []] σ (bj1 σ []):=by
 refine fi5 ?_ ?_
 .refine C_f fok147 (nZ rfl) ?_;simp only[ic147,go_sem,aj9];exact ⟨Kept.refl σ,.inl ⟨rfl,rfl⟩⟩
 .refine C_f fok147 (nZ rfl) ?_;simp only[ic147,go_sem,aj9];rw[bm5 (by simp only[aa3,if_true]) rfl];simp only[go_sem];refine ⟨⟨by show σ.next<=σ.next+2;omega,λi hi=>?_⟩,.inr ⟨σ.next,zb _,by show σ.next<σ.next+2;omega,rfl,by simp only[aa3,if_true];rfl⟩⟩;have:¬i=σ.next:=om;simp only[aa3,this,if_false]
def jr1 (o:ah4)(σ:Store):Cq 87 [o.v,.aa2 []] σ (ji4 σ []):=by
 refine C_f fok87 (nZ rfl) ?_;have c:o.v.leaf=true:=rfl;have d:o.v.cs=[o.v]:=rfl;simp only[ic87,go_sem,c,d];refine ab8 fok147 (iu5 _) ?_;rintro v s ⟨h,b⟩;refine ⟨h.next,?_⟩;simp only[go_sem];refine ab8 fok134 (iw3 (zs:=[]) (λz=>!o.a.is z) sm b.w fok148.1 (al3 (ai4 (aj2 o))) λz _=>fq5 o z) ?_;rintro v m ⟨⟨f,j⟩,e⟩;refine ⟨f,?_⟩;have n:=h.next;have k:Kept σ m:=⟨om,λi hi=>by rw[j i hi om,h.obj i hi]⟩;rcases e with ⟨rfl,_⟩|⟨id,cs,r,q,rfl,p⟩
 .simp only[go_sem];exact ⟨k,.inl ⟨rfl,rfl⟩⟩
 .simp only[go_sem,List.filter_nil];exact ⟨k,.inl ⟨rfl,rfl⟩⟩
def hu6 (o:ah4)(f:OOK o)(hr:∀n,o.a.is n=true->(o.a.pk n).evr.rel≠[])(l:List Int)(p:l.length<256)(σ:Store) :
  Cq 87 [o.v,.aa2 (l.map Md.ad1)] σ (ji4 σ (o.av3 l)):=by
 by_cases h0:l=[]
 .subst h0
  have e:o.av3 []=[]:=List.eq_nil_iff_forall_not_mem.2 λx h=>by
   have:=(o.ax4.1 h).1;cases this
  rw[e];exact jr1 o σ
 .exact gk1 o f hr l h0 om σ λinst σ id tl d q b i=>
   (dx9 (an8 o) tl (ku8 o f) (ld9 o hr) d om b i).mono λv s ⟨e,m,k,j,c⟩=>⟨e,m,k,j,c.next,c.row,c.other⟩
def er5 (o:ah4)(c:OOK o)(hr:∀n,o.a.is n=true->(o.a.pk n).evr.rel≠[])(l:List Int)(b:l.length<256) :
  Pq 87 [o.v,.aa2 (l.map Md.ad1)] (.aa2 ((o.av3 l).map Md.ad1)):=
 gu5 λσ=>hu6 o c hr l b σ
def bz8 {σ:Store}{id nid:Nat}(l:List aa1)(i:σ.obj id=zf (.row []))(o:l.length<2^31) :
  ∃w σ',bb4 σ nid 15 (.slice id 0 0 15) (ay5 l)=zf (.slice w 0 l.length 15,σ')/\σ'.next=σ.next/\σ'.obj w=zf (.row (l.map aa1.cs).flatten)/\(w=id\/w=nid)/\∀j,j≠id->j≠nid->σ'.obj j=σ.obj j:=by
 have k:∀x∈l.map aa1.cs,x.length=15/\x.all IV.leaf=true:=by
  intro x a;obtain ⟨y,_,rfl⟩:=zp.1 a;exact ⟨rfl,rfl⟩
 have b:bz5 σ 15 (.aa2 (l.map aa1.cs))=zf (l.length,(l.map aa1.cs).flatten):=by
  have n:(l.map aa1.cs).all (λe=>e.length==15)=true:=List.all_eq_true.2 λx a=>by rw[(k x a).1];rfl
  simp only[bz5,n,if_true,zo]
 have d:(l.map aa1.cs).flatten.all IV.leaf=true:=be3 λx a=>(k x a).2
 have f:¬((l.map aa1.cs).flatten.all IV.leaf=false):=by rw[d];decide
 unfold bb4;rw[b];simp only[f,if_false,i];by_cases h0:l.length=0
 .have c:l=[]:=List.length_eq_zero_iff.1 h0;subst c;exact ⟨id,σ,rfl,rfl,i,.inl rfl,λ_ _ _=>rfl⟩
 .have p:0+l.length<=2147483648:=om;have h:l.length<=2147483648:=om;simp only[h0,and_false,if_false,List.length_nil,Nat.zero_mul,Nat.zero_add,List.drop_nil,List.all_nil,and_self,true_and,List.nil_append,h,if_true];refine ⟨nid,_,rfl,rfl,?_,.inr rfl,λj h m=>?_⟩
  .rw[aa3,if_pos rfl]
  .rw[aa3,if_neg m];show (if j=id then none else σ.obj j)=_;rw[if_neg h]
def ht4 (r:bb5):(r.cs.drop 15).head? = zf (.int .i64 r.eu2):=rfl
def cv8 (p:Pool)(n:Int):Pq 157 [p.v,.int .i64 n] (.int .i64 (p.cf7 n)):=by
 unfold Pool.cf7;have hr:=dg8 p.rows n;refine aw8 fok157 (nZ rfl) λσ=>?_
 by_cases h:0<=n/\n<p.rows.length
 .rw[if_pos h];obtain ⟨k,rfl⟩:=Int.eq_ofNat_of_zero_le h.1;have b:k<p.rows.length:=om;have a:(decide (0<=(k:Int))&&decide ((k:Int)<p.rows.length))=true:=by simp;omega
  rw[a] at hr;have f:(k:Int)<p.rows.length:=om;have d:(0:Int)<=k:=om;have c:(p.rows.map bb5.cs).getD k []=p.rows[k].cs:=by simp[zg,b]
  have e:p.rows.getD (k:Int).toNat ⟨default,0,0⟩=p.rows[k]:=by simp[zg,b]
  rw[e];simp only[ic157,go_sem,Pool.v];refine aa4 fok62 hr ?_;simp only[go_sem,f,d,c,bh3,ht4,and_self]
 .rw[if_neg h];have a:(decide (0<=n)&&decide (n<p.rows.length))=false:=by simpa using h
  rw[a] at hr;simp only[ic157,go_sem,Pool.v];refine aa4 fok62 hr ?_;simp only[go_sem,and_self]
def kh9 (o:ah4)(p q:aa1){i:Nat}(hi:i<o.a.l.length)(n:o.a.l.length<2^62):Pq 218 [.ab5 p.cs,.ab5 [o.v],.ab5 [.int .i64 i],.ab5 q.cs] (.int .i64 (aq7 (ah4.bl8 (decide (p.name=(o.a.pk i).name))) (ah4.bl8 (decide (q.name=(o.a.pk i).name))))):=by
 refine af5 hE fok218 (nZ rfl) (gv8 (.ab5 _ (ag4 p)) (ai4 (aj2 o)) (ai4 (.int _ _)) (.ab5 _ (ag4 q))) ?_;have f:(i:Int)<o.a.l.length:=om;have e:(0:Int)<=i:=om;have d:(o.a.l.map aa1.cs).getD i []=o.a.l[i].cs:=by simp[zg,hi]
 have b:=dx6 o.a hi;rw[b];have m:p.cs.head? = zf (.str p.name):=rfl;have k:q.cs.head? = zf (.str q.name):=rfl;have c:(o.a.l[i]).cs.head? = zf (.str (o.a.l[i]).name):=rfl;have j:=by8 (decide (p.name=(o.a.l[i]).name))
 have h:=by8 (decide (q.name=(o.a.l[i]).name))
 have hc:=bf3 (ah4.bl8 (decide (p.name=(o.a.l[i]).name))) (ah4.bl8 (decide (q.name=(o.a.l[i]).name)));rw[eg2];simp only[ic218,go_sem,an5,ad8,m,f,e,d,c];refine aa8 (j) ?_;simp only[go_sem,an5,ad8,k,f,e,d,c];refine aa8 (h) ?_;simp only[go_sem]
 first|refine aa4 fok155 (hc) ?_|refine aa8 (hc) ?_
 simp only[go_sem];exact bf8 rfl
def ki1 (p q:aa1)(hp:EVR.small p.evr)(e:EVR.small q.evr):Pq 219 [.ab5 q.cs,.ab5 p.cs] (.int .i64 (ao6 q.evr p.evr)):=by
 refine af5 hE fok219 (nZ rfl) (ag7 (.ab5 _ (ag4 q)) (.ab5 _ (ag4 p))) ?_;have h:=ax7 q.evr p.evr e hp;have d:(p.cs.drop 1).take 3=p.evr.cs:=rfl;have b:(q.cs.drop 1).take 3=q.evr.cs:=rfl;have c:(p.cs.drop 1).length=14:=rfl;have a:(q.cs.drop 1).length=14:=rfl;simp only[ic219,go_sem,ad8,d,b,c,a];refine aa4 fok127 (h) ?_;simp only[go_sem];exact bf8 rfl
def ki2 (o:ah4)(z:OOK o){i n m:Nat}(hi:i<o.a.l.length)(s:n<o.a.l.length)(t:m<o.a.l.length) :
  Pq 217 [.int .i64 n,.int .i64 m,.ab5 [o.v],.ab5 [.int .i64 i]] (.int .i64 (o.upF i n m)):=by
 refine af5 hE fok217 (nZ rfl) (gv8 (.int _ _) (.int _ _) (ai4 (aj2 o)) (ai4 (.int _ _))) ?_;have A:=z.a.len;have q:=dx6 o.a s;have r:=dx6 o.a t;have en:=(z.a.small _ (List.getElem_mem s)).1;have N:=(z.a.small _ (List.getElem_mem t)).1
 have I:o.upF i n m=orM [aq7 (ah4.bl8 (decide ((o.a.l[n]).name=(o.a.pk i).name))) (ah4.bl8 (decide ((o.a.l[m]).name=(o.a.pk i).name))),ao6 o.a.l[m].evr o.a.l[n].evr]:=by
  unfold ah4.upF ah4.ik8 Md.lex;rw[q,r];simp only[orM]
  repeat (first|rfl|split)
  all_goals simp_all
 have W:=kh9 o o.a.l[n] o.a.l[m] hi om;have V:=ki1 o.a.l[n] o.a.l[m] en N;have H:=ai4 (aj2 o);have F:=ai4 (v:=.int .i64 i) (.int _ _);have E:Bnd 0 (.ab5 o.a.l[n].cs):=.ab5 _ (ag4 _);have D:Bnd 0 (.ab5 o.a.l[m].cs):=.ab5 _ (ag4 _)
 have hf:=cv7 [(218,[.ab5 o.a.l[n].cs,.ab5 [o.v],.ab5 [.int .i64 i],.ab5 o.a.l[m].cs]),(219,[.ab5 o.a.l[m].cs,.ab5 o.a.l[n].cs])]
  [aq7 (ah4.bl8 (decide ((o.a.l[n]).name=(o.a.pk i).name))) (ah4.bl8 (decide ((o.a.l[m]).name=(o.a.pk i).name))),ao6 o.a.l[m].evr o.a.l[n].evr] rfl sm
  (λf hf c hc=>by
   simp only[List.mem_cons,List.not_mem_nil,or_false] at hf;rcases hf with rfl|rfl
   .exact gv8 E H F D c hc
   .exact ag7 D E c hc)
  (λk K X=>by
   match k,K with
   | 0,_=>exact ⟨fok218.1,W⟩
   | 1,_=>exact ⟨fok219.1,V⟩
   | k+2,h=>simp at h;omega)
 rw[<- I] at hf;have b:=eg2 o;have U:(n:Int)<o.a.l.length:=om;have T:(0:Int)<=n:=om;have Q:(m:Int)<o.a.l.length:=om;have P:(0:Int)<=m:=om;have M:(o.a.l.map aa1.cs).getD n []=o.a.l[n].cs:=by simp[zg,s]
 have L:(o.a.l.map aa1.cs).getD m []=o.a.l[m].cs:=by simp[zg,t]
 simp only[ic217,go_sem,b,an5,U,T,Q,P,M,L,ad8,ad9,ac9];rw[<- b];generalize B:Store.mk 18 _=S;have p:S.obj 14=zf (.cells o.a.l[n].cs):=by rw[<- B];simp only[aa3];rfl
 have f:S.obj 15=zf (.cells o.a.l[m].cs):=by rw[<- B];simp only[aa3,if_true]
 have e:=bw9 p (ag4 _);have d:=bw9 f (ag4 _);have u:∀(x y:IV),[x].length=[y].length:=λ_ _=>rfl
 refine ab8 fok207 (bq4 hE (u _ _) (λi hi=>?_) (by simp[IV.plain]) hf) ?_
 .match i,hi with
  | 0,_=>
   refine .aa2 _ _ rfl (λi hi=>?_) λi hi j J=>?_
   .match i,hi with
    | 0,_=>rfl
    | 1,_=>rfl
   .match i,hi,j,J with
    | 0,_,0,_=>exact dx5 (.cons e (.cons (.keep _ H) (.cons (.keep _ F) (.cons d .nil))))
    | 1,_,0,_=>exact dx5 (.cons d (.cons e .nil))
 rintro v w ⟨rfl,rfl⟩;refine ⟨zb _,?_⟩;simp only[go_sem];exact bf8 rfl
def ki3 (o:ah4)(i:Int):Pq 153 [o.v,.int .i64 i] (.func (.func 217) [] [.ab5 [o.v],.ab5 [.int .i64 i]]):=by
 refine af5 hE fok153 (nZ rfl) (ag7 (aj2 o) (.int _ _)) ?_;have a:o.v.leaf=true:=rfl;have b:o.v.cs=[o.v]:=rfl;simp only[ic153,go_sem,a,b];exact .keep _ (.func _ _ _ (λc hc=>by cases hc) (ag7 (ai4 (aj2 o)) (ai4 (.int _ _))))
def hu7 (i n m:Int):Pq 158 [.int .i64 n,.int .i64 m,.ab5 [.int .i64 i]] (.int .i64 (ah4.cr2 i n m)):=by
 refine af5 hE fok158 (nZ rfl) (aw9 (.int _ _) (.int _ _) (ai4 (.int _ _))) ?_;have b:=by8 (decide (n=i))
 have a:=by8 (decide (m=i))
 have hc:=bf3 (ah4.bl8 (decide (n=i))) (ah4.bl8 (decide (m=i)));unfold ah4.cr2;simp only[ic158,go_sem];refine aa8 (b) ?_;simp only[go_sem];refine aa8 (a) ?_;simp only[go_sem]
 first|refine aa4 fok155 (hc) ?_|refine aa8 (hc) ?_
 simp only[go_sem];exact bf8 rfl
def hu8 (o:ah4)(n m:Int):Pq 154 [.int .i64 n,.int .i64 m,.ab5 [o.v]] (.int .i64 (o.eb9 n m)):=by
 refine af5 hE fok154 (nZ rfl) (aw9 (.int _ _) (.int _ _) (ai4 (aj2 o))) ?_;have e:=cv8 o.a.p n;have d:=cv8 o.a.p m;have c:=by8 (decide (0<=o.a.p.cf7 n))
 have b:=by8 (decide (0<=o.a.p.cf7 m))
 have hc:=bf3 (ah4.bl8 (decide (0<=o.a.p.cf7 n))) (ah4.bl8 (decide (0<=o.a.p.cf7 m)));unfold ah4.eb9;rw[eg2];simp only[ic154,go_sem,an5];refine aa8 (e) ?_;simp only[go_sem];refine aa8 (c) ?_;simp only[go_sem,an5];refine aa8 (d) ?_;simp only[go_sem];refine aa8 (b) ?_;simp only[go_sem]
 first|refine aa4 fok155 (hc) ?_|refine aa8 (hc) ?_
 simp only[go_sem];exact bf8 rfl
structure ki4 (o:ah4) (f:Nat×List IV) (c:Int->Int->Int):Prop where
 ok:okF Tryz.prog f.1=true
 bnd:∀x∈f.2,Bnd 0 x
 pc:∀n m:Nat,n<o.a.l.length->m<o.a.l.length->Pq f.1 ([.int .i64 n,.int .i64 m]++f.2) (.int .i64 (c n m))
def iu6 (o:ah4)(P:OOK o)(b:List (Nat×List IV))(cs:List (Int->Int->Int))(L:b.length=cs.length)(S:b.length<2^40)(hf:∀k (F:k<b.length) (E:k<cs.length),ki4 o b[k] cs[k])
  {n m:Nat} (F:n<o.a.l.length) (E:m<o.a.l.length):Pq 216 [.int .i64 n,.int .i64 m,.ab5 [.aa2 (b.map fnC)],.ab5 [o.v]] (.int .i64 (fj6 cs o.cmp n m)):=by
 have B:Bnd 0 (.aa2 (b.map fnC)):=.aa2 _ λe M c hc=>by
  obtain ⟨f,r,rfl⟩:=zp.1 M;obtain ⟨k,z,rfl⟩:=zr.1 r
  cases hc with
  | head=>exact .func _ _ _ (λc hc=>by cases hc) (hf k z om).bnd
  | tail _ h=>cases h
 refine af5 hE fok216 (nZ rfl) (gv8 (.int _ _) (.int _ _) (ai4 B) (ai4 (aj2 o))) ?_;have t:=dx7 o P F E;simp only[ic216,go_sem];refine aa9 noT (λk fr s=>fr=[(0,.int .i64 n),(1,.int .i64 m),(3,.ab5 [o.v]),(10,.aa2 (b.map fnC)),(11,.int .i64 b.length),(12,.int .i64 k)]/\fj6 cs o.cmp n m=fj6 (cs.drop k) o.cmp n m) b.length ⟨rfl,rfl⟩ ?_;rintro k fr s K ⟨rfl,p⟩;by_cases e:k<b.length
 .have⟨f,r,d,N,q,J⟩:=ad3 b k e;have j:k<cs.length:=om;have H:(k:Int)<b.length:=om;have Q:(0:Int)<=k:=om;have I:=ac6 (i:=k) om;have D:=hf k e j
  have A:b[k]=f:=by
   have:=List.getElem?_eq_getElem e;rw[this] at d;exact zf.inj d
  rw[A] at D;have y:=D.pc n m F E;rw[List.drop_eq_getElem_cons j] at p;simp only[fj6,Md.lex] at p;generalize cs[k] (n:Int) (m:Int)=x at *;simp only[go_sem,H,Q,q,fnC];refine al7 D.ok y ?_;by_cases u:x=0
  .subst u;simp only[go_sem,I];exact ⟨e,by simpa using p⟩
  .rw[if_neg u] at p;simp only[go_sem,u];rw[p];exact ae5 _ _
 .have z:k=b.length:=om;subst z;have H:¬(b.length:Int)<b.length:=om;rw[L,List.drop_length] at p;simp only[fj6] at p;simp only[go_sem,H];refine aa4 fok151 (t) ?_;simp only[go_sem];rw[p];exact ae5 _ _
def iu7 {σ:Store}(a:IV):Cq 253 [.aa5,.int .i64 0,.int .i64 0,a] σ λv s=>v=.tuple []/\σ.next<=s.next:=by
 refine C_f fok253 (nZ rfl) ?_;have w0:IntKind.i64.wrap (0+1)=1:=by decide
 simp only[ic253,go_sem,w0];refine aa9 noT (λk fr t=>k=0/\fr=[(0,.aa5),(1,.int .i64 0),(2,.int .i64 0),(3,a),(8,.int .i64 1)]/\σ.next<=t.next) 0 ⟨rfl,rfl,zb _⟩ ?_;rintro k fr t _ ⟨rfl,rfl,b⟩;simp only[go_sem];exact b
def jr2 {σ:Store}(fv:IV):Cq 150 [.aa5,fv] σ λv s=>v=.tuple []/\σ.next<=s.next:=by
 have hp:∀lim:Int,Cq 206 [.aa5,.int .i64 0,.int .i64 0,.int .i64 lim,fv] σ λv s=>v=.tuple []/\σ.next<=s.next:=λlim=>by
  refine C_f fok206 (nZ rfl) ?_;have w0:IntKind.i64.wrap (0-0)=0:=by decide
  have c1:(0:Int)<=12:=by decide
  simp only[ic206,go_sem];refine aa9 noT (λk fr t=>k=0/\fr=[(0,.aa5),(1,.int .i64 0),(2,.int .i64 0),(3,.int .i64 lim),(4,fv),(10,.bool true),(11,.bool true)]/\σ.next<=t.next) 0 ⟨rfl,rfl,zb _⟩ ?_;rintro k fr t _ ⟨rfl,rfl,ht⟩;simp only[go_sem,w0,c1];refine ab8 fok253 (iu7 fv) ?_;rintro v s ⟨rfl,hs⟩;refine ⟨hs,?_⟩;simp only[go_sem];exact ze ht hs
 refine C_f fok150 (nZ rfl) ?_;have w0:IntKind.u64.wrap 0=0:=by decide
 have hl:=hu4 0 (by decide);simp only[ic150,go_sem,w0];refine aa4 fok190 hl ?_;simp only[go_sem];refine ab8 fok206 (hp _) ?_;rintro v s ⟨rfl,hs⟩;refine ⟨hs,?_⟩;simp only[go_sem];exact hs
def le3 (o:ah4)(hr:∀n,o.a.is n=true->(o.a.pk n).evr.rel≠[]){c:Int->Int->Int}(hc:WO o.dk5 c):Go.Sort.SWO (ltOf λx y:gm4 o=>c (an8 o x) (an8 o y)):=by
 have hs:∀x:gm4 o,o.dk5 (an8 o x):=λx=>hr _ (by unfold an8;rw[ac2.bq8];exact decide_eq_true x.2)
 have b:∀n,c n n=0:=λn=>by have:=hc.neg n n;omega
 refine ⟨λx=>?_,λx y z e d=>?_,λx y z e d=>?_⟩
 .show decide (c (an8 o x) (an8 o x)<0)=false;rw[b];rfl
 .unfold ltOf at *;have f:=hc.tr (an8 o x) (an8 o y) (an8 o z) (hs x) (hs y) (hs z);have k:=hc.tr (an8 o z) (an8 o x) (an8 o y) (hs z) (hs x) (hs y);have j:=hc.neg (an8 o x) (an8 o y);have i:=hc.neg (an8 o y) (an8 o z);have h:=hc.neg (an8 o x) (an8 o z);simp only[decide_eq_true_eq] at e d ⊢;omega
 .unfold ltOf at *;have f:=hc.tr (an8 o z) (an8 o y) (an8 o x) (hs z) (hs y) (hs x);have j:=hc.neg (an8 o x) (an8 o y);have i:=hc.neg (an8 o y) (an8 o z);have h:=hc.neg (an8 o x) (an8 o z);simp only[decide_eq_false_iff_not] at e d ⊢;omega
def ff7 (o:ah4)(hO:OOK o)(hr:∀n,o.a.is n=true->(o.a.pk n).evr.rel≠[])(hp:o.a.l.length<256)(i:Int)(D:List (Nat×List IV))(cs:List (Int->Int->Int))(hl:D.length=cs.length)(hn:D.length<2^40)
  (hf:∀k (h1:k<D.length) (h2:k<cs.length),ki4 o D[k] cs[k]) (hw:∀c∈cs,WO o.dk5 c) :
  Pq 152 [o.v,.int .i64 i,.aa2 (D.map fnC)] (.aa2 ((o.bi3 cs i).map Md.ad1)):=by
 have am:Bnd 0 (.aa2 (D.map fnC)):=.aa2 _ λe he c hc=>by
  obtain ⟨f,al,rfl⟩:=zp.1 he;obtain ⟨k,T,rfl⟩:=zr.1 al
  cases hc with
  | head=>exact .func _ _ _ (λc hc=>by cases hc) (hf k T om).bnd
  | tail _ h=>cases h
 refine af5 hE fok152 (nZ rfl) (aw9 (aj2 o) (.int _ _) am) ?_;have J:o.v.leaf=true:=rfl;have K:o.v.cs=[o.v]:=rfl;have u:=eg3 o i;have r:=o.bk1 cs i
 cases t:o.a.is i with
 | false=>
  rw[t] at u
  have ad:o.a.an3 i=[]:=by
   unfold ac2.an3 ac2.inst;rw[t];rfl
  rw[ad] at r;rw[List.perm_nil.1 r];simp only[ic152,go_sem,J,K];refine aa4 fok149 (u) ?_;simp only[go_sem]
  exact .by1
 | true=>
 rw[t] at u;simp only[ic152,go_sem,J,K];refine aa4 fok149 (u) ?_;have ao:∀c:List IV,o.v=.ab5 (o.a.v::c)->o.v=.ab5 (o.a.v::c):=λ_ h=>h
 have Y:dy9 o.v=zf o.v:=rfl;have aa:ci9 0 o.v=zf o.v:=rfl;have old:∀σ:Store,ay8 σ none o.v=zf o.a.v:=λ_=>rfl
 simp only[go_sem,Y,aa,old];refine ab8 fok74 (ct7 o.a i hO.a _) ?_;rintro v s ⟨T,N⟩;refine ⟨T.next,?_⟩;simp only[go_sem];rcases N with ⟨rfl,h0⟩|⟨id,row,ai,U,rfl,ho,E,Q⟩
 .refine ab8 fok150 (jr2 _) ?_;rintro v s2 ⟨rfl,ae⟩;refine ⟨ae,?_⟩;simp only[go_sem];rw[h0] at r;rw[List.perm_nil.1 r];exact .by1
 -- the numbers that there are,put into their row
 obtain ⟨zs,p⟩:∃zs,zs=o.a.an3 i:=⟨_,rfl⟩;have A:∀z∈zs,∃k:Nat,z=k/\k<o.a.l.length:=λz hz=>ff4 (o.ec1 (by rw[<- p];exact hz))
 have ab:zs.length<256:=by
  rw[p];unfold ac2.an3;split
  .exact Nat.lt_of_le_of_lt (ai3 _ _) hp
  .show 0<256;decide
 rw[<- p] at E Q ⊢
 obtain ⟨ds,H⟩:∃ds:List (gm4 o),ds.map (an8 o)=zs:=by
  clear E Q p ab
  induction zs with
  | nil=>exact ⟨[],rfl⟩
  | cons z zs ih=>
   have⟨ds,h⟩:=ih λy hy=>A y (List.mem_cons_of_mem _ hy)
   obtain ⟨k,rfl,T⟩:=A z List.mem_cons_self;exact ⟨⟨k,T⟩::ds,by rw[List.map_cons,h];rfl⟩
 have W:ds.length=zs.length:=by rw[<- H,zo]
 have⟨i0,_,ak⟩:=ff4 t;have inst:Inhabited (gm4 o):=⟨⟨i0,ak⟩⟩;have I:=jk1 o.wo cs hw;have hZ:=gw4 (λ_ _=>o.ec8) cs;have an:ch7 (an8 o) (λx y:gm4 o=>fj6 cs o.cmp (an8 o x) (an8 o y)) 216 [] [.ab5 [.aa2 (D.map fnC)],.ab5 [o.v]]:=⟨fok216.1,λx y=>iu6 o hO D cs hl hn hf x.2 y.2⟩
 have af:s.obj id=zf (.row (bb6 (an8 o) (row.drop zs.length) ds.toArray)):=by
  rw[ho,bb6,er2];have h2:ds.toArray.toList.map (λx=>IV.int .i64 (an8 o x))=zs.map bg1:=by rw[<- H,List.map_map];rfl
  rw[h2,<- E,List.take_append_drop]
 have M:ds.toArray.size=zs.length:=W;have hS:=dx9 (an8 o) (row.drop zs.length) an (le3 o hr I) ds.toArray om U af;rw[M] at hS;refine ab8 fok150 hS ?_;rintro v s3 ⟨rfl,d,hP,hU,hK⟩;refine ⟨hK.next,?_⟩;simp only[go_sem];obtain ⟨b,q⟩:∃b,d.toList.map (an8 o)=b:=⟨_,rfl⟩;have m:d.size=zs.length:=by rw[hP.1];exact W
 have L:b.length=zs.length:=by rw[<- q,zo,Array.length_toList,m]
 have B:b.Perm zs:=by
  have h3:=hP.2.2;have e1:d.extract 0 zs.length=d:=by rw[<- m];exact zt
  have e2:ds.toArray.extract 0 zs.length=ds.toArray:=by rw[<- M];exact zt
  rw[e1,e2] at h3;have X:d.toList.Perm ds:=h3;rw[<- q,<- H];exact X.map _
 have ac:b.Pairwise λx y=>x=y\/fj6 cs o.cmp x y<0:=by
  refine List.pairwise_iff_getElem.2 λi j hi hj ah=>?_
  have aj:i<d.size:=by rw[m];omega
  have ag:j<d.size:=by rw[m];omega
  have X:=hU i j (zl _) ah om;rw[getElem!_pos d i aj,getElem!_pos d j ag] at X;have g1:b[i]=an8 o d[i]:=by simp[<- q]
  have g2:b[j]=an8 o d[j]:=by simp[<- q]
  rw[g1,g2];unfold ltOf at X;have h5:¬fj6 cs o.cmp (an8 o d[j]) (an8 o d[i])<0:=of_decide_eq_false X;have n1:=I.neg (an8 o d[i]) (an8 o d[j]);by_cases e:fj6 cs o.cmp (an8 o d[i]) (an8 o d[j])=0
  .exact .inl (hZ _ _ e)
  .exact .inr om
 have P:b=o.bi3 cs i:=by
  unfold ah4.bi3;rw[p] at B;exact gw5 (S:=o.dk5) I hZ (λx hx=>hr x (o.ec1 hx)) (o.ez4 i) B ac
 rw[<- P]
 have F:s3.obj id=zf (.row (b.map bg1++row.drop zs.length)):=by
  rw[hK.row,bb6,er2,<- q,List.map_map];rfl
 have V:=fs5 (zs:=b) F (by rw[List.take_append_of_le_length sm,List.take_of_length_le sm]) sm;rw[L] at V;exact V
end Go.Id.Tryz
