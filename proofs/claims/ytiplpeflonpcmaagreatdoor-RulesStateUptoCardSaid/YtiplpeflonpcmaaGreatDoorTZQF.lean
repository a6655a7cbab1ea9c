/- Pools: how they are made. Conditions: none. -/
import Derived.Test.YtiplpeflonpcmaaGreatDoorTZPE
import Derived.Test.YtiplpeflonpcmaaGreatDoorMsb
import Derived.Test.YtiplpeflonpcmaaGreatDoorMv
import Derived.Test.YtiplpeflonpcmaaGreatDoorFwQ
open List renaming length_map→za,mem_map→zb,length_append→ze,getD_eq_getElem?_getD→zf,map_append→zg,not_mem_nil→zh,mem_cons→zi,length_cons→zl,drop_length→zm,drop_eq_getElem_cons→zp,take_length→zq,length_take→zs,length_drop→zt,getElem_mem→zu,map_cons→zv,length_nil→zw,dropWhile_cons→zx,getElem?_eq_getElem→zz,map_map→z1,drop_of_length_le→z2,nodup_nil→z4,mem_singleton→z7,Pairwise→qa,Perm→qb,take_of_length_le→qc,getElem?_drop→qd,filter_append→qe,dropWhile_nil→qf,foldl_append→qh,append_assoc→qi
open Option renaming some→zc,map→zy,none→z9
open Nat renaming le_refl→zd,add_assoc→zj,not_lt_zero→zk,le_trans→zo,le_succ→zr,testBit_and→z3,zero_le→z5,lt_of_le_of_lt→qg
open Int renaming toNat_natCast→zn
open Bool renaming not_true→z6,false_eq_true→z8
set_option linter.all false
set_option maxRecDepth 100000
set_option maxHeartbeats 1000000
private theorem om{P:Prop}(h:P:=by omega):P:=h
namespace Go.Id.Tryz
open Go Go.Id Go.Proofs Go.Id.Md
theorem bx7 (r:be6):r.cs.length=17:=by unfold be6.cs; rw[ze]; rfl
theorem dh3 (r:be6):r.cs.all IV.leaf=true:=by unfold be6.cs; rw[List.all_append]; rfl
theorem fk5 (r:be6):∀ c∈r.cs,Bnd 0 c:=by
 intro c hc;unfold be6.cs at hc;rcases List.mem_append.1 hc with h|h
 ·exact av1 _ c h
 ·simp only[zi,zh,or_false] at h;rcases h with rfl|rfl<;>exact .int _ _
theorem bx8 {s s':Store}{v:IV}{esz:Nat}{es:List (List IV)}(h:Grow s v esz es):cc5 0 s' v=zc (.int .i64 es.length):=by
 rcases h with ⟨rfl,rfl⟩|⟨id,rfl,_⟩<;>rfl
structure PS (s:Store) (pp mid:Nat) (rows:List be6) (inst:Int) (L:NmL) (rv:IV) (B:Nat):Prop where
 cell:s.obj pp=zc (.cells [rv,.int .i64 inst,.map mid])
 grow:Grow s rv 17 (rows.map be6.cs)
 map:s.obj mid=zc (.map (mEs L))
 row:∀ t∈L,s.obj t.2.2=zc (.row (t.2.1.map ad9).flatten)/\t.2.2<s.next/\t.2.1.length<=B
 ids:(L.map (·.2.2)).Nodup
 keys:(L.map (·.1)).Nodup
 ne:∀ id n,rv=.slice id 0 n 17->∀ t∈L,t.2.2≠id
 lt:pp<s.next/\mid<s.next
theorem PS.mono {s s':Store}{pp mid:Nat}{rows:List be6}{inst:Int}{L:NmL}{rv:IV}{B:Nat}(h:PS s pp mid rows inst L rv B)(hn:s.next<=s'.next)(ho:∀ i,i<s.next->s'.obj i=s.obj i):PS s' pp mid rows inst L rv B where
 cell:=by rw[ho _ h.lt.1]; exact h.cell
 grow:=h.grow.mono hn fun id _ hid=>ho id hid
 map:=by rw[ho _ h.lt.2]; exact h.map
 row:=fun t ht=>⟨by rw[ho _ (h.row t ht).2.1]; exact (h.row t ht).1,by have:=(h.row t ht).2.1; omega,(h.row t ht).2.2⟩
 ids:=h.ids
 keys:=h.keys
 ne:=h.ne
 lt:=⟨by have:=h.lt.1; omega,by have:=h.lt.2; omega⟩
theorem cb3 (l:List Int):∀ e∈l.map Md.ad9,e.length=1/\e.all IV.leaf=true:=fun e he=>by
 obtain ⟨x,_,rfl⟩:=zb.1 he;exact ⟨rfl,rfl⟩
theorem fk6 (l:List be6):∀ e∈l.map be6.cs,e.length=17/\e.all IV.leaf=true:=fun e he=>by
 obtain ⟨x,_,rfl⟩:=zb.1 he;exact ⟨bx7 x,dh3 x⟩
theorem PS.name {s:Store}{pp mid:Nat}{rows:List be6}{inst:Int}{L:NmL}{rv:IV}{B:Nat}(h:PS s pp mid rows inst L rv B)(k:Str)(n:Int)(m nid:Nat)(hm:s.next<=m)(hnew:s.next<=nid)(hb:B<2^30) :
  ∃ s1,be9 ⟨m,s.obj⟩ nid 1 (de3 L k) (.aa4 [[.int .i64 n]])=zc (.slice nid 0 ((ch9 L k).length+1) 1,s1)/\s1.next=m/\s1.obj mid=zc (.map (mEs L))/\(∀ i cs,i<s.next->s.obj i=zc (.cells cs)->s1.obj i=zc (.cells cs)) /\
   ∀ nx,nid<nx->PS ⟨nx,(s1.put mid (.map (mEs (be7 L k n nid)))).obj⟩ pp mid rows inst (be7 L k n nid) rv (B+1):=by
 have hg0:Grow s (de3 L k) 1 ((ch9 L k).map Md.ad9):=by
  rcases ce5 L k with ⟨h1,h2⟩|⟨t,ht,_,h1,h2⟩
  ·rw[h1,h2]; exact .inl ⟨rfl,rfl⟩
  ·rw[h1,h2]; exact .inr ⟨t.2.2,by rw[za],(h.row t ht).1,(h.row t ht).2.1⟩
 have hg:Grow ⟨m,s.obj⟩ (de3 L k) 1 ((ch9 L k).map Md.ad9):=Grow.mono (σ:=s) hg0 hm fun _ _ _=>rfl
 have hlen:(ch9 L k).length<=B:=by
  rcases ce5 L k with ⟨h1,h2⟩|⟨t,ht,_,h1,h2⟩
  ·rw[h2]; exact z5 _
  ·rw[h2]; exact (h.row t ht).2.2
 have hap:=aj8 (nid:=nid) (e:=[.int .i64 n]) hg (cb3 _) ⟨rfl,rfl⟩ (by rw[za]; omega);rw[za] at hap;have hmid:¬ mid=nid:=by have:=h.lt.2; omega
 have hpp:¬ pp=nid:=by have:=h.lt.1; omega
 have hpm:¬ pp=mid:=fun e=>by have h1:=h.cell; have h2:=h.map; rw[e,h2] at h1; cases h1
 have km:=af8 hg mid _ h.map (fun _ e=>by cases e);have kp:=af8 hg pp _ h.cell (fun _ e=>by cases e)
 have kother:∀ i cs,s.obj i=zc (.row cs)->(∀ t∈L,t.1=k->t.2.2≠i)->(ae7 (de3 L k) ⟨m,s.obj⟩).obj i=zc (.row cs):=by
  intro i cs hi hne;rcases ce5 L k with ⟨h1,_⟩|⟨t,ht,hk,h1,_⟩
  ·rw[h1]; exact hi
  ·rw[h1];show (if i=t.2.2 then z9 else s.obj i)=_;rw[if_neg (fun e=>hne t ht hk e.symm)]; exact hi
 refine ⟨_,hap,by rw[ab2,ac2],by rw[aa5,if_neg hmid]; exact km,fun i cs hi h=>by rw[aa5,if_neg om]; exact af8 hg i _ h (fun _ e=>by cases e),fun nx hnx=>?_⟩;have hrow_ne_mid:∀ i cs,s.obj i=zc (.row cs)->¬ i=mid:=fun i cs hi e=>by subst e; rw[h.map] at hi; cases hi
 exact {
  cell:=by
   show (if pp=mid then _ else if pp=nid then _ else (ae7 (de3 L k) ⟨m,s.obj⟩).obj pp)=_;rw[if_neg hpm,if_neg hpp]; exact kp
  grow:=by
   rcases h.grow with h1|⟨id,hv,ho,hlt⟩
   ·exact .inl h1
   ·refine .inr ⟨id,hv,?_,by show id<nx; omega⟩;show (if id=mid then _ else if id=nid then _ else (ae7 (de3 L k) ⟨m,s.obj⟩).obj id)=_;rw[if_neg (hrow_ne_mid _ _ ho),if_neg om];exact kother id _ ho fun t ht _=>h.ne id _ hv t ht
  map:=by
   show (if mid=mid then _ else _)=_;rw[if_pos rfl]
  row:=by
   intro t ht;rcases eb9 h.keys t ht with ⟨h1,h2⟩|rfl
   ·obtain ⟨r1,r2,r3⟩:=h.row t h1;refine ⟨?_,by show t.2.2<nx; omega,om⟩;show (if t.2.2=mid then _ else if t.2.2=nid then _ else (ae7 (de3 L k) ⟨m,s.obj⟩).obj t.2.2)=_;rw[if_neg (hrow_ne_mid _ _ r1),if_neg om];exact kother _ _ r1 fun u hu hk e=>h2 (by rw[<- gq4 h.keys h.ids u hu t h1 e]; exact hk)
   ·refine ⟨?_,hnx,?_⟩
    ·show (if nid=mid then _ else if nid=nid then _ else _)=_;rw[if_neg (fun e=>hmid e.symm),if_pos rfl,zg];rfl
    ·show (ch9 L k++[n]).length<=B+1;rw[ze]; simp; exact hlen
  ids:=(gq3 L h.ids (fun hm=>by
   obtain ⟨t,ht,e⟩:=zb.1 hm;have:=(h.row t ht).2.1;have e':t.2.2=nid:=e;omega)).1
  keys:=(fg7 L h.keys).1
  ne:=by
   intro id m hv t ht;rcases eb9 h.keys t ht with ⟨h1,h2⟩|rfl
   ·exact h.ne id m hv t h1
   ·rcases h.grow with ⟨h1,_⟩|⟨id',hv',ho,hlt⟩
    ·rw[h1] at hv; cases hv
    ·rw[hv'] at hv;cases hv;show nid≠id;omega
  lt:=⟨by have:=h.lt.1; show pp<nx; omega,by have:=h.lt.2; show mid<nx; omega⟩ }
theorem ii8 {σ:Store}{mid:Nat}{L:NmL}(h:σ.obj mid=zc (.map (mEs L)))(k:Str):cc3 σ 2 .aa1 false (.map mid) (.str k)=zc (de3 L k):=by
 obtain ⟨r,h1,h2⟩:=ja2 L k;simp only[cc3,bz3,h,h1,h2,z8,if_false]
theorem fk7 {σ:Store}{mid:Nat}{L:NmL}(h:σ.obj mid=zc (.map (mEs L)))(k:Str)(n:Int)(nid:Nat):ao4 σ 2 (.map mid) (.str k) (.slice nid 0 ((ch9 L k).length+1) 1)=zc (σ.put mid (.map (mEs (be7 L k n nid)))):=by
 simp only[ao4,h,kf6 L k n nid,zy]
theorem fk8 (x:aa2):x.cs.head? = zc (.str x.name):=rfl
theorem bl1 (x:aa2):(x.cs++[IV.int .i64 0,IV.int .i64 0]).length=17:=rfl
theorem bl2 (x:aa2)(a:Int):(bb3 (x.cs++[IV.int .i64 0,IV.int .i64 0]) 15 [IV.int .i64 a]).length=17:=rfl
theorem bl3 (x:aa2)(a b:Int):bb3 (bb3 (x.cs++[IV.int .i64 0,IV.int .i64 0]) 15 [IV.int .i64 a]) 16 [IV.int .i64 b]=(be6.mk x a b).cs:=rfl
theorem gy4 (r:be6):r.cs.take 17=r.cs:=qc (by rw[bx7]; exact zd _)
theorem PS.push {s:Store}{pp mid:Nat}{rows:List be6}{inst:Int}{L:NmL}{rv:IV}{B:Nat}(h:PS s pp mid rows inst L rv B)(r:be6)(m nid:Nat)(hm:s.next<=m)(hnew:s.next<=nid)(hb:rows.length<2^30) :
  ∃ s1,be9 ⟨m,s.obj⟩ nid 17 rv (.aa4 [r.cs])=zc (.slice nid 0 (rows.length+1) 17,s1)/\s1.next=m/\s1.obj pp=s.obj pp /\
   ∀ nx,nid<nx->PS ⟨nx,(s1.put pp (.cells [.slice nid 0 (rows.length+1) 17,.int .i64 inst,.map mid])).obj⟩ pp mid (rows++[r]) inst L (.slice nid 0 (rows.length+1) 17) B:=by
 have hg:Grow ⟨m,s.obj⟩ rv 17 (rows.map be6.cs):=Grow.mono (σ:=s) h.grow hm fun _ _ _=>rfl
 have hap:=aj8 (nid:=nid) (e:=r.cs) hg (fk6 rows) ⟨bx7 r,dh3 r⟩ (by rw[za]; omega);rw[za] at hap;have hmid:¬ mid=nid:=by have:=h.lt.2; omega
 have hpp:¬ pp=nid:=by have:=h.lt.1; omega
 have hmp:¬ mid=pp:=fun e=>by have h1:=h.cell; have h2:=h.map; rw[<- e,h2] at h1; cases h1
 have km:=af8 hg mid _ h.map (fun _ e=>by cases e);have kp:=af8 hg pp _ h.cell (fun _ e=>by cases e);refine ⟨_,hap,by rw[ab2,ac2],by rw[aa5,if_neg hpp,kp,h.cell],fun nx hnx=>?_⟩
 exact {
  cell:=by
   show (if pp=pp then _ else _)=_;rw[if_pos rfl]
  grow:=by
   refine .inr ⟨nid,by rw[zg,ze,za]; rfl,?_,hnx⟩;show (if nid=pp then _ else if nid=nid then _ else _)=_;rw[if_neg (fun e=>hpp e.symm),if_pos rfl,zg]; rfl
  map:=by
   show (if mid=pp then _ else if mid=nid then _ else (ae7 rv ⟨m,s.obj⟩).obj mid)=_;rw[if_neg hmp,if_neg hmid]; exact km
  row:=by
   intro t ht;obtain ⟨r1,r2,r3⟩:=h.row t ht;refine ⟨?_,by show t.2.2<nx; omega,r3⟩;have e1:¬ t.2.2=pp:=fun e=>by rw[e,h.cell] at r1; cases r1
   show (if t.2.2=pp then _ else if t.2.2=nid then _ else (ae7 rv ⟨m,s.obj⟩).obj t.2.2)=_;rw[if_neg e1,if_neg om];rcases h.grow with ⟨hv,_⟩|⟨id,hv,ho,hlt⟩
   ·rw[hv]; exact r1
   ·rw[hv];show (if t.2.2=id then z9 else s.obj t.2.2)=_;rw[if_neg (h.ne id _ hv t ht)]; exact r1
  ids:=h.ids
  keys:=h.keys
  ne:=by
   intro id m hv t ht;cases hv;have:=(h.row t ht).2.1;omega
  lt:=⟨by have:=h.lt.1; show pp<nx; omega,by have:=h.lt.2; show mid<nx; omega⟩ }
def kv1 (n pp mid:Nat)(rows:List be6)(inst:Int)(nm:Nms)(l:List aa2)(fh7 prio:Int):IV->Store->Prop:=fun v s=>
 n<=s.next/\((l.all ak1=true/\v=.int .i64 0/\∃ L rv,bd6 L=eb8 nm rows.length l/\PS s pp mid (rows++rowsOf l fh7 prio) inst L rv (rows.length+l.length))\/(l.all ak1=false/\v=.int .i64 4))
theorem ju5 (l:List aa2)(hl:l.length<2^20)(hf:∀ p∈l,p.Fit)(fh7 prio:Int)(σ:Store)(pp mid:Nat)(rows:List be6)(hr:rows.length<2^20)(inst:Int)(L:NmL)(rv:IV)(hp:PS σ pp mid rows inst L rv rows.length) :
  C Tryz.prog EE 34 [.ptr pp 0,.aa4 (l.map aa2.cs),.int .i64 fh7,.int .i64 prio] σ (kv1 σ.next pp mid rows inst (bd6 L) l fh7 prio):=by
 refine C_f fok34 (nZ rfl) ?_;simp only[ic34,go_sem]
 refine ab3 noT (fun i fr s=>fr=[(0,.ptr pp 0),(2,.int .i64 fh7),(3,.int .i64 prio),(11,.aa4 (l.map aa2.cs)),(12,.int .i64 l.length),(13,.int .i64 i)]/\σ.next<=s.next/\(l.take i).all ak1=true /\
  ∃ L' rv',eb8 (bd6 L') (rows.length+i) (l.drop i)=eb8 (bd6 L) rows.length l/\PS s pp mid (rows++rowsOf (l.take i) fh7 prio) inst L' rv' (rows.length+i)) l.length ⟨rfl,zd _,rfl,L,rv,rfl,by simpa [rowsOf] using hp⟩ ?_
 rintro i fr s hle ⟨rfl,hn,hall,L',rv',hnm,h⟩;by_cases hlt:i<l.length
 ·obtain ⟨x,hx,_,hdr,hget,htk⟩:=ad6 l i hlt;have c1:(i:Int)<l.length:=om
  have c2:(0:Int)<=i:=om
  have w1:=ad1 (i:=i) om;simp only[go_sem,c1,c2,hget,af6,af4,ac9];refine aa7 (gx3 x (hf x hx)) ?_
  cases hm:ak1 x with
  | false=>
   have:l.all ak1=false:=by rw[List.all_eq_false]; exact ⟨x,hx,by simp[hm]⟩
   simp only[go_sem]
   exact ⟨by simp only[ab2]; omega,.inr ⟨this,rfl⟩⟩
  | true=>
   generalize hS:Store.mk (s.next+1) _=S1;have hS1:S1.next=s.next+1:=by rw[<- hS]
   have hbx:S1.obj s.next=zc (.cells x.cs):=by
    rw[<- hS]; simp only[aa5,if_true]
   have h1:PS S1 pp mid (rows++rowsOf (l.take i) fh7 prio) inst L' rv' (rows.length+i):=h.mono om fun j hj=>by
    have e:¬ j=s.next:=om
    rw[<- hS]; simp only[aa5,e,if_false]
   have hlen:=bx8 (s':=⟨S1.next+21,S1.obj⟩) h1.grow
   have hrl:((rows++rowsOf (l.take i) fh7 prio).map be6.cs).length=rows.length+i:=by
    rw[za,ze,rowsOf,za,zs]; omega
   rw[hrl] at hlen;obtain ⟨s2,ha1,ha2,ha3,ha4,hps⟩:=h1.name x.name ((rows.length+i:Nat):Int) (S1.next+21) (S1.next+19) om om om;have hlk:=ii8 (σ:=⟨S1.next+21,S1.obj⟩) h1.map x.name;simp only[go_sem,zj,h1.cell,hbx,hlen,fk8,hlk];rw[ha1];simp only[go_sem,zj];rw[fk7 ha3 x.name ((rows.length+i:Nat):Int)];have h2:=hps (S1.next+21) om;have hmb:¬ s.next=mid:=by have:=h.lt.2; omega
   have hb2:(s2.put mid (aj5.map (mEs (be7 L' x.name ((rows.length+i:Nat):Int) (S1.next+19))))).obj s.next=zc (.cells x.cs):=by
    simp only[aa5,hmb,if_false];exact ha4 _ _ om hbx
   have hn3:(s2.put mid (aj5.map (mEs (be7 L' x.name ((rows.length+i:Nat):Int) (S1.next+19))))).next=S1.next+21:=ha2;generalize s2.put mid (aj5.map (mEs (be7 L' x.name ((rows.length+i:Nat):Int) (S1.next+19))))=S3 at *;obtain ⟨s4,hb3,hb4,hb5,hps2⟩:=h2.push ⟨x,fh7,prio⟩ (S3.next+15) (S3.next+11) (by show S1.next+21<=_; omega) (by show S1.next+21<=_; omega) (by rw[ze,rowsOf,za,zs]; omega);have hc3:=h2.cell;simp only at hc3 hb3;simp only[go_sem,zj,hc3,hb2,af6,af4,ac9];refine aa7 (dv9 x (hf x hx)) ?_;simp only[go_sem,zj,af6,af4,ac9,bl1,bl2,bl3,bx7,dh3,gy4,List.append_nil,List.drop_nil];rw[hb3];have hc4:s4.obj pp=zc (.cells [rv',.int .i64 inst,.map mid]):=by rw[hb5]; exact hc3
   simp only[go_sem,zj,hc4,w1];have h5:=hps2 s4.next (by rw[hb4]; omega);refine ⟨hlt,om,?_,be7 L' x.name ((rows.length+i:Nat):Int) (S1.next+19),.slice (S3.next+11) 0 ((rows++rowsOf (l.take i) fh7 prio).length+1) 17,?_,?_⟩
   ·rw[htk,List.all_append,hall]; simp[hm]
   rotate_left
   ·rw[htk,ew8,<- qi];exact h5
   ·rw[<- hnm,hdr,eb8,cy6,<- zj]
 ·have hi':i=l.length:=om
  subst hi';have c1:¬ (l.length:Int)<l.length:=om
  simp only[go_sem,c1];rw[zq] at hall h;rw[zm] at hnm;exact ⟨hn,.inl ⟨hall,rfl,L',rv',hnm,h⟩⟩
def an7.Fit (r:an7):Prop:=r.packages.length<2^20/\∀ p∈r.packages,p.Fit
theorem ii9 (r:an7):∀ c∈r.cs,Bnd 0 c:=by
 intro c hc;simp only[an7.cs,zi,zh,or_false] at hc;rcases hc with rfl|rfl
 ·exact .int _ _
 ·exact .aa4 _ fun e he c hc=>by
   obtain ⟨p,_,rfl⟩:=zb.1 he; exact av1 p c hc
abbrev bc2 (l:List aa2):IV:=.aa4 (l.map aa2.cs)
abbrev bb2 (l:List an7):IV:=.aa4 (l.map an7.cs)
theorem au2 (l:List aa2):Bnd 0 (bc2 l):=.aa4 _ fun e he c hc=>by
 obtain ⟨p,_,rfl⟩:=zb.1 he; exact av1 p c hc
theorem bs2 (l:List an7):Bnd 0 (bb2 l):=.aa4 _ fun e he c hc=>by
 obtain ⟨p,_,rfl⟩:=zb.1 he; exact ii9 p c hc
theorem ao8 {P:IV->Prop}{u v:IV}(hu:P u)(hv:P v):∀ a∈[u,v],P a:=fun a ha=>by
 cases ha with
 | head=>exact hu
 | tail _ h=>cases h with
  | head=>exact hv
  | tail _ h=>cases h
theorem bn1 (r:an7):r.cs.length=2:=rfl
theorem dh4 (r:an7):r.cs.all IV.leaf=true:=rfl
theorem dh5 (r:an7):r.cs.take 2=r.cs:=rfl
theorem ef5 (l:List an7)(i:Nat)(a:an7)(h:l.drop i=a::l.drop (i+1)):am6 (l.drop i)=a.packages.length+am6 (l.drop (i+1)):=by
 rw[h]; simp[am6]
theorem PS.frz {s:Store}{pp mid:Nat}{rows:List be6}{inst:Int}{L:NmL}{rv:IV}{B:Nat}(h:PS s pp mid rows inst L rv B):cu4 s 0 (.ptr pp 0) (Pool.v ⟨rows,inst,bd6 L⟩):=by
 refine .ptr pp 0 _ _ (zk _) (.inl h.cell) (zd _) fun j hj=>?_
 have hj3:j=0\/j=1\/j=2:=by simp only[zl,zw] at hj; omega
 rcases hj3 with rfl|rfl|rfl
 ·refine h.grow.frz (fun x hx=>(fk6 rows x hx).1) (fun _ _=>zk _) fun e he c hc=>?_
  obtain ⟨r,_,rfl⟩:=zb.1 he;exact fk5 r c hc
 ·exact af2 _ _
 ·have hat:∀ i,i<(mEs L).length->∃ t∈L,(mEs L).getD i (.undef,.undef)=(.str t.1,.slice t.2.2 0 t.2.1.length 1)/\(nmV (bd6 L)).getD i (.undef,.undef)=(.str t.1,.aa4 (t.2.1.map Md.ad9)):=by
   intro i hi;have hi':i<L.length:=by simpa [mEs] using hi
   exact ⟨L[i],zu hi',by simp[mEs,zf,hi'],by simp[nmV,bd6,zf,hi']⟩
  refine .map mid (mEs L) (nmV (bd6 L)) (nmV (bd6 L)) (zk _) h.map (by simp[nmV,bd6,mEs]) (qb.refl _) ⟨?_,.str,fun e he=>?_⟩ (fun i hi=>?_) (fun i hi=>?_)
  ·have:(nmV (bd6 L)).map (·.1)=(L.map (·.1)).map IV.str:=by simp[nmV,bd6]
   rw[this];exact qa.map _ (fun a b hab e=>hab (by cases e; rfl)) h.keys
  ·simp only[nmV,zb] at he;obtain ⟨t,_,rfl⟩:=he;trivial
  ·obtain ⟨t,ht,e1,e2⟩:=hat i hi;rw[e1,e2]; exact bl7 _
  ·obtain ⟨t,ht,e1,e2⟩:=hat i hi;rw[e1,e2];obtain ⟨r1,r2,_⟩:=h.row t ht;have hg:Grow s (.slice t.2.2 0 t.2.1.length 1) 1 (t.2.1.map Md.ad9):=.inr ⟨t.2.2,by rw[za],r1,r2⟩;refine hg.frz (fun x hx=>(cb3 _ x hx).1) (fun _ _=>zk _) fun e he c hc=>?_
   obtain ⟨n,_,rfl⟩:=zb.1 he
   cases hc with
   | head=>exact .int _ _
   | tail _ h=>cases h
theorem ef6 {s:Store}(n:Int):cu4 s 0 (.tuple [.ad5,.int .i64 n]) (.tuple [.ad5,.int .i64 n]):=.by5 (.cons (.keep _ .ad5) (.cons (af2 _ _) .nil))
theorem ct4 (repos:List an7)(inst:List aa2)(h1:repos.length<2^20)(h2:inst.length<2^20)(h3:am6 repos<2^40)(hr:∀ r∈repos,an7.Fit r)(hi:∀ p∈inst,p.Fit) :
  PC Tryz.prog EE 20 [bb2 repos,bc2 inst] (jq2 (ce4 repos inst)):=by
 refine ae6 hE fok20 (nZ rfl) (ao8 (bs2 _) (au2 _)) ?_;simp only[ic20,go_sem];refine ab3 noT (fun i fr s=>∃ n:Nat,fr=[(0,bb2 repos),(1,bc2 inst),(6,.int .i64 n),(16,bb2 repos),(17,.int .i64 repos.length),(18,.int .i64 i)]/\n+am6 (repos.drop i)=inst.length+am6 repos) repos.length ⟨inst.length,rfl,rfl⟩ ?_;rintro i fr s hle ⟨n,rfl,hn⟩;by_cases hlt:i<repos.length
 ·obtain ⟨a,ha,_,hdr,hget,htk⟩:=ad6 repos i hlt;have c1:(i:Int)<repos.length:=om
  have c2:(0:Int)<=i:=om
  have w1:=ad1 (i:=i) om;rw[ef5 repos i a hdr] at hn
  have w2:IntKind.i64.wrap ((n:Int)+a.packages.length)=((n+a.packages.length:Nat):Int):=by
   rw[wrap64 om om]; omega
  simp only[go_sem,c1,c2,hget,bn1,dh5,dh4];simp only[go_sem,an7.cs,w1,w2];exact ⟨hlt,n+a.packages.length,rfl,om⟩
 have hi':i=repos.length:=om
 subst hi';have c1:¬ (repos.length:Int)<repos.length:=om
 have hn0:n=inst.length+am6 repos:=by rw[zm] at hn; simpa [am6] using hn
 subst hn0;by_cases b1:16<repos.length
 ·have b1':(16:Int)<repos.length:=om
  simp only[go_sem,c1,b1',ce4,b1,true_or];exact .by5 (.cons (.keep _ .ad5) (.cons (af2 _ _) .nil))
 have b1':¬ (16:Int)<repos.length:=om
 by_cases b2:256<inst.length+am6 repos
 ·have b2':(256:Int)<((inst.length+am6 repos:Nat):Int):=om
  simp only[go_sem,c1,b1',b2',ce4,b1,b2,or_true];exact .by5 (.cons (.keep _ .ad5) (.cons (af2 _ _) .nil))
 have b2':¬ (256:Int)<((inst.length+am6 repos:Nat):Int):=om
 simp only[go_sem,c1,b1',b2']
 have hp0:PS ⟨s.next+2,((Store.put ⟨s.next+2,s.obj⟩ s.next (aj5.map [])).put (s.next+1) (aj5.cells [.aa1,.int .i64 inst.length,.map s.next])).obj⟩ (s.next+1) s.next [] inst.length [] .aa1 0 :=
  {cell:=by simp only[aa5,if_true]
   grow:=.inl ⟨rfl,rfl⟩
   map:=by
    have e:¬ s.next=s.next+1:=om
    simp only[aa5,e,if_false,if_true]; rfl
   row:=fun t ht=>by cases ht
   ids:=z4
   keys:=z4
   ne:=fun _ _ h=>by cases h
   lt:=⟨by show s.next+1<s.next+2; omega,by show s.next<s.next+2; omega⟩ }
 refine ac5 fok34 (ju5 inst h2 hi (-1) 1025 _ (s.next+1) s.next [] (by decide) inst.length [] .aa1 hp0) ?_;rintro v s2 ⟨n2,⟨g1,rfl,L1,rv1,g2,g3⟩|⟨g1,rfl⟩⟩
 case inr=>
  refine ⟨n2,?_⟩;simp only[go_sem,ce4,b1,b2,or_self,g1];exact ef6 _
 refine ⟨n2,?_⟩
 have hres:ce4 repos inst=match al7 0 repos (rowsOf inst (-1) 1025,eb8 [] 0 inst) with
  | some (rows,nm)=>.inl ⟨rows,inst.length,nm⟩
  | none=>.inr 4:=by
  simp only[ce4,b1,b2,or_self,if_false,g1,Bool.true_eq_false];rfl
 rw[hres];simp only[go_sem]
 refine ab3 noT (fun i fr t=>fr=[(9,.ptr (s.next+1) 0),(46,bb2 repos),(47,.int .i64 repos.length),(48,.int .i64 i)]/\∃ rows L rv,PS t (s.next+1) s.next rows inst.length L rv rows.length /\
  al7 0 repos (rowsOf inst (-1) 1025,eb8 [] 0 inst)=al7 i (repos.drop i) (rows,bd6 L)/\rows.length+am6 (repos.drop i)=inst.length+am6 repos) repos.length ⟨rfl,rowsOf inst (-1) 1025,L1,rv1,?_,?_,?_⟩ ?_
 ·have e:(rowsOf inst (-1) 1025).length=0+inst.length:=by rw[bw4]; omega
  rw[e]; exact g3
 ·rw[g2]; rfl
 ·rw[bw4]; rfl
 rintro i fr t hle ⟨rfl,rows,L,rv,hp,hrf,hsum⟩;by_cases hlt:i<repos.length
 ·obtain ⟨a,ha,_,hdr,hget,htk⟩:=ad6 repos i hlt;have c1:(i:Int)<repos.length:=om
  have c2:(0:Int)<=i:=om
  have w1:=ad1 (i:=i) om;rw[ef5 repos i a hdr] at hsum;rw[hdr] at hrf;simp only[go_sem,c1,c2,hget,bn1,dh5,dh4];by_cases p1:a.priority<0
  ·simp only[go_sem,an7.cs,p1];rw[hrf,al7,if_pos (.inl p1)];exact ef6 _
  by_cases p2:1024<a.priority
  ·simp only[go_sem,an7.cs,p1,p2];rw[hrf,al7,if_pos (.inr (.inl p2))];exact ef6 _
  simp only[go_sem,an7.cs,p1,p2]
  have hp1:PS ⟨t.next+1,((Store.put ⟨t.next+1,t.obj⟩ t.next (aj5.cells [.int .i64 0,.aa1])).put t.next (aj5.cells [.int .i64 a.priority,bc2 a.packages])).obj⟩ (s.next+1) s.next rows inst.length L rv rows.length:=hp.mono (zr _) fun j hj=>by
   have e:¬ j=t.next:=om
   simp only[aa5,e,if_false]
  refine ac5 fok34 (ju5 a.packages (hr a ha).1 (hr a ha).2 i a.priority _ (s.next+1) s.next rows om inst.length L rv hp1) ?_;rintro v s3 ⟨n3,⟨k1,rfl,L2,rv2,k2,k3⟩|⟨k1,rfl⟩⟩
  ·refine ⟨n3,?_⟩;simp only[go_sem,w1];refine ⟨hlt,rows++rowsOf a.packages i a.priority,L2,rv2,?_,?_,?_⟩
   ·rw[ze,bw4]; exact k3
   ·rw[hrf,al7,if_neg (by simp[p1,p2,k1]),k2]
   ·rw[ze,bw4]; omega
  ·refine ⟨n3,?_⟩;simp only[go_sem];rw[hrf,al7,if_pos (.inr (.inr k1))];exact ef6 _
 have hi':i=repos.length:=om
 subst hi';have c1:¬ (repos.length:Int)<repos.length:=om
 rw[zm] at hrf;simp only[go_sem,c1];rw[hrf,al7];exact .by5 (.cons hp.frz (.cons (af2 _ _) .nil))
end Go.Id.Tryz
namespace Go.Id.Tryz
open Go Go.Id Go.Proofs Go.Id.Md
theorem gy5 (s:Str):PC Tryz.prog EE 270 [.str s] (.bool false):=by
 refine ba5 fok270 (nZ rfl) fun σ=>?_
 simp only[ic270,go_sem,and_self,bne_self_eq_false,decide_true,z6]
theorem gy6 (n:Int):PC Tryz.prog EE 269 [.int .u8 n] (.bool false):=by
 refine ba5 fok269 (nZ rfl) fun σ=>?_
 simp only[ic269,go_sem,and_self,bne_self_eq_false,decide_true,z6]
theorem gy7 (n:Int):PC Tryz.prog EE 213 [.int .i64 n] (.bool false):=by
 refine ba5 fok213 (nZ rfl) fun σ=>?_
 simp only[ic213,go_sem,and_self,bne_self_eq_false,decide_true,z6]
theorem gy8 (a b:Int):PC Tryz.prog EE 176 [.int .i64 a,.int .i64 b] (.int .i64 (ay9 a b)):=by
 refine ba5 fok176 (nZ rfl) fun σ=>?_
 simp only[ic176,go_sem];refine aa3 fok213 (gy7 a) ?_;simp only[go_sem];refine aa3 fok213 (gy7 b) ?_;simp only[go_sem];by_cases h1:a<b
 ·simp only[go_sem,h1,ay9,and_self]
 ·by_cases h2:b<a
  ·have h3:¬ a=b:=om
   simp only[go_sem,h1,h2,h3,ay9,and_self]
  ·have h3:a=b:=om
   subst h3;simp only[go_sem,h1,ay9,and_self,if_false,if_true]
theorem fb5 (a b:Int):PC Tryz.prog EE 251 [.int .u8 a,.int .u8 b] (.int .i64 (ay9 a b)):=by
 refine ba5 fok251 (nZ rfl) fun σ=>?_
 simp only[ic251,go_sem];refine aa3 fok269 (gy6 a) ?_;simp only[go_sem];refine aa3 fok269 (gy6 b) ?_;simp only[go_sem];by_cases h1:a<b
 ·simp only[go_sem,h1,ay9,and_self]
 ·by_cases h2:b<a
  ·have h3:¬ a=b:=om
   simp only[go_sem,h1,h2,h3,ay9,and_self]
  ·have h3:a=b:=om
   subst h3;simp only[go_sem,h1,ay9,and_self,if_false,if_true]
theorem fb6 (a b:Str):PC Tryz.prog EE 252 [.str a,.str b] (.int .i64 (de2 a b)):=by
 refine ba5 fok252 (nZ rfl) fun σ=>?_
 simp only[ic252,go_sem];refine aa3 fok270 (gy5 a) ?_;simp only[go_sem];refine aa3 fok270 (gy5 b) ?_;simp only[go_sem]
 cases h1:Op.bytesLess a b with
 | true=>simp only[go_sem,h1,de2,and_self]
 | false=>
  by_cases h3:a=b
  ·subst h3;simp only[go_sem,h1,de2,and_self,z8,if_false,if_true,decide_true,Bool.or_true,z6]
  ·simp only[go_sem,h1,h3,de2,and_self,z8,if_false,decide_false,Bool.or_false,Bool.not_false]
def orM:List Int->Int
 | []=>0
 | a::l=>if a=0 then orM l else a
theorem je4 (l:List Int)(hl:l.length<2^40):PC Tryz.prog EE 250 [.aa4 (l.map Md.ad9)] (.int .i64 (orM l)):=by
 refine ba5 fok250 (nZ rfl) fun σ=>?_
 simp only[ic250,go_sem];refine ab3 noT (fun i fr s=>fr=[(3,.int .i64 0),(6,.aa4 (l.map Md.ad9)),(7,.int .i64 l.length),(8,.int .i64 i)]/\s=σ/\orM l=orM (l.drop i)) l.length ⟨rfl,rfl,rfl⟩ ?_;rintro i fr s hle ⟨rfl,rfl,hI⟩;by_cases hlt:i<l.length
 ·obtain ⟨x,hx,_,hdr,hget,htk⟩:=ad6 l i hlt;have c1:(i:Int)<l.length:=om
  have c2:(0:Int)<=i:=om
  have w1:=ad1 (i:=i) om;rw[hdr,orM] at hI;by_cases e:x=0
  ·rw[if_pos e] at hI;subst e;simp only[go_sem,c1,c2,hget,Md.ad9,w1];exact ⟨hlt,hI⟩
  ·rw[if_neg e] at hI;simp only[go_sem,c1,c2,hget,Md.ad9,e,hI,and_self]
 ·have hi':i=l.length:=om
  subst hi';have c1:¬ (l.length:Int)<l.length:=om
  rw[zm,orM] at hI;simp only[go_sem,c1,hI,and_self]
theorem gy9 (n:Int)(h:n=-1\/n=0\/n=1):PC Tryz.prog EE 248 [.int .i64 n] (.int .u8 (if n<0 then 1 else if n=0 then 2 else 4)):=by
 rcases h with rfl|rfl|rfl
 all_goals
  refine ae6 hE fok248 (nZ rfl) (ae5 (.int _ _)) ?_;simp only[ic248,go_sem];exact .keep _ (.int _ _)
def vkN (n:Nat):Nat:=if n=126 then 1 else if n=94 then 3 else if 97<=n/\n<=122\/65<=n/\n<=90 then 4 else if 48<=n/\n<=57 then 5 else 0
theorem je5 (b:UInt8):af5 b=vkN b.toNat:=by
 have h:∀ n,n<256->af5 (UInt8.ofNat n)=vkN n:=by decide +kernel
 have:=h b.toNat b.toNat_lt
 rwa [UInt8.ofNat_toNat] at this
theorem fb7 (b:UInt8):PC Tryz.prog EE 267 [.int .u8 b.toNat] (.int .u8 (af5 b)):=by
 rw[je5];have hb:=b.toNat_lt;generalize b.toNat=n at *;unfold vkN;refine ae6 hE fok267 (nZ rfl) (ae5 (.int _ _)) ?_;by_cases e1:n=126
 ·have e1':(n:Int)=126:=om
  rw[if_pos e1];simp only[ic267,go_sem,e1'];exact .keep _ (.int _ _)
 have e1':¬ (n:Int)=126:=om
 rw[if_neg e1];by_cases e2:n=94
 ·have e2':(n:Int)=94:=om
  have q:¬ (94:Int)=126:=by decide
  rw[if_pos e2];simp only[ic267,go_sem,e2',q];exact .keep _ (.int _ _)
 have e2':¬ (n:Int)=94:=om
 rw[if_neg e2];by_cases e3:97<=n/\n<=122
 ·have f1:(97:Int)<=n:=om
  have f2:(n:Int)<=122:=om
  rw[if_pos (.inl e3)];simp only[ic267,go_sem,e1',e2',f1,f2];exact .keep _ (.int _ _)
 by_cases e4:65<=n/\n<=90
 ·have f1:¬ (97:Int)<=n:=om
  have f3:(65:Int)<=n:=om
  have f4:(n:Int)<=90:=om
  rw[if_pos (.inr e4)];simp only[ic267,go_sem,e1',e2',f1,f3,f4];exact .keep _ (.int _ _)
 rw[if_neg (fun h=>h.elim e3 e4)];by_cases e5:48<=n/\n<=57
 ·have f1:¬ (97:Int)<=n:=om
  have f3:¬ (65:Int)<=n:=om
  have f5:(48:Int)<=n:=om
  have f6:(n:Int)<=57:=om
  rw[if_pos e5];simp only[ic267,go_sem,e1',e2',f1,f3,f5,f6];exact .keep _ (.int _ _)
 rw[if_neg e5];by_cases f1:(97:Int)<=n
 ·have f2:¬ (n:Int)<=122:=om
  have f3:(65:Int)<=n:=om
  have f4:¬ (n:Int)<=90:=om
  have f5:(48:Int)<=n:=om
  have f6:¬ (n:Int)<=57:=om
  simp only[ic267,go_sem,e1',e2',f1,f2,f3,f4,f5,f6];exact .keep _ (.int _ _)
 by_cases f3:(65:Int)<=n
 ·have f4:¬ (n:Int)<=90:=om
  have f5:(48:Int)<=n:=om
  have f6:¬ (n:Int)<=57:=om
  simp only[ic267,go_sem,e1',e2',f1,f3,f4,f5,f6];exact .keep _ (.int _ _)
 by_cases f5:(48:Int)<=n
 ·have f6:¬ (n:Int)<=57:=om
  simp only[ic267,go_sem,e1',e2',f1,f3,f5,f6];exact .keep _ (.int _ _)
 ·simp only[ic267,go_sem,e1',e2',f1,f3,f5];exact .keep _ (.int _ _)
theorem ij1 (s:Str)(hs:s.length<2^62)(c:UInt8):PC Tryz.prog EE 273 [.str s,.int .u8 c.toNat] (.str (s.dropWhile (· == c))):=by
 refine ba5 fok273 (nZ rfl) fun σ=>?_
 simp only[ic273,go_sem];refine ab3 noT (fun i fr t=>fr=[(0,.str (s.drop i)),(1,.int .u8 c.toNat)]/\t=σ/\s.dropWhile (· == c)=(s.drop i).dropWhile (· == c)) s.length ⟨rfl,rfl,rfl⟩ ?_;rintro i fr t hle ⟨rfl,rfl,hI⟩;by_cases hlt:i<s.length
 ·obtain ⟨x,hx,hget,hdr,_,htk⟩:=ad6 s i hlt;have c1:(0:Int)<(s.length-i:Nat):=om
  have h0:(s.drop i)[0]? = zc x:=by rw[hdr]; rfl
  by_cases e:x=c
  ·subst e;simp only[go_sem,zt,c1,cj5,Int.le_refl,Int.toNat_zero,h0,zy]
   have hsub:cw1 (zc (.int .i64 1)) z9 (.str (s.drop i))=zc (.str (s.drop (i+1))):=by
    rw[hdr];simp[cw1,da7,fn9];exact qc (by rw[zt]; omega)
   simp only[go_sem,hsub];refine ⟨hlt,?_⟩;rw[hI,hdr,zx,if_pos (by simp)]
  ·have e':¬ (x.toNat:Int)=c.toNat:=fun h=>e (UInt8.toNat_inj.1 om)
   simp only[go_sem,zt,c1,cj5,Int.le_refl,Int.toNat_zero,h0,zy,e'];rw[hI,hdr,zx,if_neg (by simpa using e)]
 ·have hi':i=s.length:=om
  subst hi';rw[zm] at hI ⊢;simp only[go_sem,zw,hI,and_self,qf]
theorem ij2 (s:Str)(hs:s.length<2^62):PC Tryz.prog EE 268 [.str s,.str [48]] (.str (s.dropWhile (· == 48))):=by
 refine ba5 fok268 (nZ rfl) fun σ=>?_
 simp only[ic268,go_sem];have ht:=ij1 s hs 48;by_cases h0:s=[]
 ·subst h0;simp only[go_sem,qf,and_self]
 ·have e1:ei1 (.str [48]) (.int .i64 0)=zc (.int .u8 (48:UInt8).toNat):=rfl;have e2:((48:UInt8).toNat:Int)<128:=by decide
  simp only[go_sem,h0,e1,e2];refine aa3 fok273 ht ?_;simp only[go_sem,and_self]
def Part.cs (p:Part):List IV:=[.int .u8 p.kind,.str p.s]
theorem jz5 (a b c:Int):orM [a,b,c]=if a≠0 then a else if b≠0 then b else c:=by
 simp only[orM];by_cases h1:a=0<;>by_cases h2:b=0<;>by_cases h3:c=0<;>simp[h1,h2,h3]
theorem gd2 (a b:Part)(ha:a.s.length<2^62)(hb:b.s.length<2^62):PC Tryz.prog EE 215 [.agg (Part.cs a),.agg (Part.cs b)] (.int .i64 (ag5 a b)):=by
 have bp:∀ p:Part,Bnd 0 (.agg (Part.cs p)):=fun p=>.agg _ fun c hc=>by
  simp only[Part.cs,zi,zh,or_false] at hc;rcases hc with rfl|rfl
  ·exact .int _ _
  ·exact .str _
 refine ae6 hE fok215 (nZ rfl) (ao8 (bp a) (bp b)) ?_;by_cases h1:a.kind=5
 ·have g1:((a.kind:Nat):Int)=5:=om
  by_cases h2:b.kind=5
  ·have g2:((b.kind:Nat):Int)=5:=om
   simp only[ic215,go_sem,Part.cs,g1,g2];refine aa3 fok176 (gy8 _ _) ?_;simp only[go_sem];refine aa7 (fb5 _ _) ?_;simp only[go_sem];refine aa7 (fb6 _ _) ?_;simp only[go_sem];refine aa7 (je4 [ay9 5 5,ay9 a.s.length b.s.length,de2 a.s b.s] (by simp)) ?_;simp only[go_sem];have e:orM [ay9 5 5,ay9 a.s.length b.s.length,de2 a.s b.s]=ag5 a b:=by rw[jz5]; simp only[ag5,h1,h2,and_self,if_true]; rfl
   rw[e]; exact af2 _ _
  ·have g2:¬ ((b.kind:Nat):Int)=5:=om
   simp only[ic215,go_sem,Part.cs,g1,g2];refine aa7 (fb5 _ _) ?_;simp only[go_sem];refine aa7 (fb6 _ _) ?_;simp only[go_sem];refine aa7 (je4 [ay9 5 b.kind,0,de2 a.s b.s] (by simp)) ?_;simp only[go_sem];have e:orM [ay9 5 b.kind,0,de2 a.s b.s]=ag5 a b:=by rw[jz5]; simp only[ag5,h1,h2,and_false,if_false]; rfl
   rw[e]; exact af2 _ _
 ·have g1:¬ ((a.kind:Nat):Int)=5:=om
  simp only[ic215,go_sem,Part.cs,g1];refine aa7 (fb5 _ _) ?_;simp only[go_sem];refine aa7 (fb6 _ _) ?_;simp only[go_sem];refine aa7 (je4 [ay9 a.kind b.kind,0,de2 a.s b.s] (by simp)) ?_;simp only[go_sem];have e:orM [ay9 a.kind b.kind,0,de2 a.s b.s]=ag5 a b:=by rw[jz5]; simp only[ag5,h1,false_and,if_false]
  rw[e]; exact af2 _ _
end Go.Id.Tryz
namespace Go.Id.Tryz
open Go Go.Id Go.Proofs Go.Id.Md
def evP (p:Part):List IV:=[.agg (Part.cs p)]
theorem ii2 (s:Str)(hs:s.length<2^62):fg1 Tryz.prog EE (.func (.func 266) [] [.ab9 [.str s]]) ((af9 s).map evP) (fun _=>True):=by
 intro yid I S σ hown hstab hy hi;refine ⟨fok266.1,?_⟩;refine C_f fok266 (nZ rfl) ?_;simp only[ic266,go_sem];refine ab3 noT (fun j fr t=>∃ (at_:Nat) (tl:Frm),fr=(0,.yield yid)::(1,.ab9 [.str s])::(3,.int .i64 at_)::tl/\σ.next<=t.next/\j<=at_/\at_<=s.length/\I ((af9 (s.drop at_)).map evP) t) s.length ⟨0,[],rfl,zd _,zd _,z5 _,hi⟩ ?_;rintro j fr t hle ⟨a,tl,rfl,hn,hja,has,hI⟩;by_cases hlt:a<s.length
 ·obtain ⟨b,hb,hget,hdr,_,htk⟩:=ad6 s a hlt;have c1:(a:Int)<s.length:=om
  have c2:(0:Int)<=a:=om
  have w1:=ad1 (i:=a) om;have hk:(4:Int)<=(af5 b:Int)↔¬ af5 b<4:=om
  simp only[go_sem,c1,cj5,c2,zn,hget,zy];refine aa7 (fb7 b) ?_;simp only[go_sem,w1];generalize hU:Store.put (Store.put _ t.next _) t.next _=U;have hUn:U.next=t.next+1:=by rw[<- hU]; rfl
  have hUb:U.obj t.next=zc (.cells [.int .u8 (af5 b),.str []]):=by rw[<- hU]; simp only[aa5,if_true]
  have hUI:∀ i,i<t.next->U.obj i=t.obj i:=fun i hi=>by
   have e:¬ i=t.next:=om
   rw[<- hU]; simp only[aa5,e,if_false]
  clear hU;have hUe:(⟨t.next+1,U.obj⟩:Store)=U:=by rw[<- hUn]
  rw[hUe];have hdl:(s.drop (a+1)).length=s.length-(a+1):=zt;have hrl:=js4 b (s.drop (a+1));generalize hR:(if af5 b<4 then 0 else gu5 b (s.drop (a+1)))=R
  have hRl:a+1+R<=s.length:=by
   rw[<- hR]; split<;>omega
  refine ab3 noT (fun m fr u=>fr=[(0,.yield yid),(1,.ab9 [.str s]),(3,.int .i64 ((a+1+m:Nat):Int)),(4,.ptr t.next 0),(5,.int .i64 a)]/\t.next+1<=u.next/\u.obj t.next=zc (.cells [.int .u8 (af5 b),.str []])/\∀ i,i<t.next->u.obj i=t.obj i) R ⟨rfl,om,hUb,hUI⟩ ?_;clear hUe hUn hUb hUI;rintro m fr u hmR ⟨rfl,hUn,hUb,hUI⟩;have w2:=ad1 (i:=a+1+m) om;have d2:(0:Int)<=((a+1+m:Nat):Int):=om
  by_cases hm:m<R
  ·have h4:¬ af5 b<4:=fun h=>by rw[if_pos h] at hR; omega
   rw[if_neg h4] at hR;obtain ⟨c,hc1,hc2⟩:=js2 (b:=b) (l:=s.drop (a+1)) (m:=m) om;have hc:s[a+1+m]? = zc c:=by rw[<- hc1,qd]
   have k1:(4:Int)<=af5 b:=om
   have k2:((a+1+m:Nat):Int)<s.length:=om
   have k3:=fb7 c;rw[hc2] at k3;simp only[go_sem,hUb,k1,k2,cj5,d2,zn,hc,zy];refine aa7 k3 ?_;simp only[go_sem,hUb,w2];exact ⟨hm,rfl,om,hUI⟩
  ·have hmR:m=R:=om
   subst hmR;by_cases h4:af5 b<4
   ·have k1:¬ (4:Int)<=af5 b:=om
    rw[if_pos h4] at hR;subst hR;have k5:¬ ((af5 b:Nat):Int)=5:=om
    have hUI2:I ((af9 (s.drop a)).map evP) ⟨u.next+18,u.obj⟩:=hstab _ _ _ hI (by show t.next<=u.next+18; omega) hUI;rw[hdr] at hUI2;by_cases h0:af5 b=0
    ·have k0:((af5 b:Nat):Int)=0:=om
     rw[if4 h0] at hUI2;have k6:¬ (0:Int)=5:=om
     simp only[go_sem,hUb,k1,k5,k0,k6];exact ⟨om,a+1,_,rfl,om,om,om,hUI2⟩
    ·have k0:¬ ((af5 b:Nat):Int)=0:=om
     rw[if5 h0 h4,zv] at hUI2;simp only[go_sem,hUb,k1,k5,k0];refine cw4 hy hUI2 (fun s1 n1 i1=>?_) (fun s1 n1 h1=>?_)
     ·have n1':u.next+18<=s1.next:=n1;simp only[go_sem];exact ⟨om,a+1,_,rfl,om,om,om,i1⟩
     ·have n1':u.next+18<=s1.next:=n1;simp only[go_sem];exact ⟨om,.inr h1⟩
   ·have k1:(4:Int)<=af5 b:=om
    rw[if_neg h4] at hR
    have key:∀ s1:Store,t.next<=s1.next->(∀ i,i<t.next->s1.obj i=t.obj i)->I (evP ⟨af5 b,if af5 b=5 then ((s.drop a).take (m+1)).dropWhile (· == 48) else (s.drop a).take (m+1)⟩::(af9 (s.drop (a+1+m))).map evP) s1:=fun s1 h1 h2=>by
     have:=hstab _ _ _ hI h1 h2;rw[hdr,if6 h4,zv,hR,<- hdr,List.drop_drop] at this;exact this
    have hss:cw1 (zc (.int .i64 a)) (zc (.int .i64 ((a+1+m:Nat):Int))) (.str s)=zc (.str ((s.drop a).take (m+1))):=by
     have e1:(0:Int)<=a:=om
     have e2:a<=a+1+m/\a+1+m<=s.length:=om
     simp only[cw1,da7,fn9,e1,d2,if_true,zn,e2,and_self];rw[List.drop_take];congr 3; omega
    have k0:¬ ((af5 b:Nat):Int)=0:=om
    have ht:=ij2 ((s.drop a).take (m+1)) (by rw[zs,zt]; omega);by_cases hend:a+1+m<s.length
    ·have k2:((a+1+m:Nat):Int)<s.length:=om
     have hc:s[a+1+m]? = zc s[a+1+m]:=zz hend;have hne:af5 s[a+1+m]≠af5 b:=js3 (l:=s.drop (a+1)) (by rw[hR,qd]; exact hc);have k7:¬ ((af5 s[a+1+m]:Nat):Int)=af5 b:=om
     simp only[go_sem,hUb,k1,k2,cj5,d2,zn,hc,zy];refine aa7 (fb7 _) ?_;simp only[go_sem,hUb,k1,k7,hss];by_cases h5:af5 b=5
     ·have k5:((af5 b:Nat):Int)=5:=om
      have key5:∀ s1:Store,t.next<=s1.next->(∀ i,i<t.next->s1.obj i=t.obj i)->I ([IV.agg [.int .u8 5,.str (((s.drop a).take (m+1)).dropWhile (· == 48))]]::(af9 (s.drop (a+1+m))).map evP) s1:=fun s1 h1 h2=>by
       have:=key s1 h1 h2;rw[if_pos h5] at this;simp only[evP,Part.cs,k5] at this;exact this
      have k6:¬ (5:Int)=0:=om
      simp only[go_sem,hUb,k5];refine aa3 fok268 ht ?_;simp only[go_sem,hUb,k5,k6];refine cw4 hy (key5 _ (by simp only[ab2]; omega) fun i hi=>?_) (fun s1 n1 i1=>?_) (fun s1 n1 h1=>?_)
      ·have:¬ i=t.next:=om
       simp only[aa5,this,if_false]; exact hUI i hi
      ·have n1':u.next+18<=s1.next:=n1;simp only[go_sem];exact ⟨om,a+1+m,_,rfl,om,om,om,i1⟩
      ·have n1':u.next+18<=s1.next:=n1;simp only[go_sem];exact ⟨om,.inr h1⟩
     ·have k5:¬ ((af5 b:Nat):Int)=5:=om
      have key5:∀ s1:Store,t.next<=s1.next->(∀ i,i<t.next->s1.obj i=t.obj i)->I ([IV.agg [.int .u8 (af5 b),.str ((s.drop a).take (m+1))]]::(af9 (s.drop (a+1+m))).map evP) s1:=fun s1 h1 h2=>by
       have:=key s1 h1 h2;rw[if_neg h5] at this;exact this
      simp only[go_sem,hUb,k5,k0];refine cw4 hy (key5 _ (by simp only[ab2]; omega) fun i hi=>?_) (fun s1 n1 i1=>?_) (fun s1 n1 h1=>?_)
      ·have:¬ i=t.next:=om
       simp only[aa5,this,if_false]; exact hUI i hi
      ·have n1':u.next+18<=s1.next:=n1;simp only[go_sem];exact ⟨om,a+1+m,_,rfl,om,om,om,i1⟩
      ·have n1':u.next+18<=s1.next:=n1;simp only[go_sem];exact ⟨om,.inr h1⟩
    ·have k2:¬ ((a+1+m:Nat):Int)<s.length:=om
     simp only[go_sem,hUb,k1,k2,hss];by_cases h5:af5 b=5
     ·have k5:((af5 b:Nat):Int)=5:=om
      have key5:∀ s1:Store,t.next<=s1.next->(∀ i,i<t.next->s1.obj i=t.obj i)->I ([IV.agg [.int .u8 5,.str (((s.drop a).take (m+1)).dropWhile (· == 48))]]::(af9 (s.drop (a+1+m))).map evP) s1:=fun s1 h1 h2=>by
       have:=key s1 h1 h2;rw[if_pos h5] at this;simp only[evP,Part.cs,k5] at this;exact this
      have k6:¬ (5:Int)=0:=om
      simp only[go_sem,hUb,k5];refine aa3 fok268 ht ?_;simp only[go_sem,hUb,k5,k6];refine cw4 hy (key5 _ (by simp only[ab2]; omega) fun i hi=>?_) (fun s1 n1 i1=>?_) (fun s1 n1 h1=>?_)
      ·have:¬ i=t.next:=om
       simp only[aa5,this,if_false]; exact hUI i hi
      ·have n1':u.next+18<=s1.next:=n1;simp only[go_sem];exact ⟨om,a+1+m,_,rfl,om,om,om,i1⟩
      ·have n1':u.next+18<=s1.next:=n1;simp only[go_sem];exact ⟨om,.inr h1⟩
     ·have k5:¬ ((af5 b:Nat):Int)=5:=om
      have key5:∀ s1:Store,t.next<=s1.next->(∀ i,i<t.next->s1.obj i=t.obj i)->I ([IV.agg [.int .u8 (af5 b),.str ((s.drop a).take (m+1))]]::(af9 (s.drop (a+1+m))).map evP) s1:=fun s1 h1 h2=>by
       have:=key s1 h1 h2;rw[if_neg h5] at this;exact this
      simp only[go_sem,hUb,k5,k0];refine cw4 hy (key5 _ (by simp only[ab2]; omega) fun i hi=>?_) (fun s1 n1 i1=>?_) (fun s1 n1 h1=>?_)
      ·have:¬ i=t.next:=om
       simp only[aa5,this,if_false]; exact hUI i hi
      ·have n1':u.next+18<=s1.next:=n1;simp only[go_sem];exact ⟨om,a+1+m,_,rfl,om,om,om,i1⟩
      ·have n1':u.next+18<=s1.next:=n1;simp only[go_sem];exact ⟨om,.inr h1⟩
 ·have ha:a=s.length:=om
  subst ha;have c1:¬ (s.length:Int)<s.length:=om
  rw[zm] at hI;simp only[go_sem,c1];exact ⟨hn,.inl hI⟩
end Go.Id.Tryz
namespace Go.Id.Tryz
open Go Go.Id Go.Proofs Go.Id.Md
def idxOf (n:Int):List Int->Nat->Int
 | [],_=>-1
 | a::l,i=>if n=a then Int.ofNat i else idxOf n l (i+1)
theorem dw1 (n:Int):∀ (l:List Int) (i:Nat),(0<=idxOf n l i↔n∈l):=by
 intro l
 induction l with
 | nil=>intro i; simp[idxOf]
 | cons a l ih=>
  intro i;simp only[idxOf];split
  ·rename_i e; subst e; simp
  ·rename_i e; rw[ih]; simp[e]
theorem fb3 (l:List Int)(n:Int)(hl:l.length<2^40):PC Tryz.prog EE 116 [.aa4 (l.map Md.ad9),.int .i64 n] (.int .i64 (idxOf n l 0)):=by
 refine ba5 fok116 (nZ rfl) fun σ=>?_
 simp only[ic116,go_sem];refine ab3 noT (fun i fr s=>fr=[(0,.aa4 (l.map Md.ad9)),(1,.int .i64 n),(7,.int .i64 l.length),(8,.int .i64 i)]/\s=σ/\idxOf n l 0=idxOf n (l.drop i) i) l.length ⟨rfl,rfl,rfl⟩ ?_;rintro i fr s hle ⟨rfl,rfl,hI⟩;by_cases hlt:i<l.length
 ·obtain ⟨x,hx,_,hdr,hget,htk⟩:=ad6 l i hlt;have c1:(i:Int)<l.length:=om
  have c2:(0:Int)<=i:=om
  have w1:=ad1 (i:=i) om;rw[hdr,idxOf] at hI;by_cases e:n=x
  ·rw[if_pos e] at hI;subst e;have hI:idxOf n l 0=(i:Int):=hI;simp only[go_sem,c1,c2,hget,Md.ad9,hI,and_self]
  ·rw[if_neg e] at hI;simp only[go_sem,c1,c2,hget,Md.ad9,e,w1];exact ⟨hlt,hI⟩
 ·have hi':i=l.length:=om
  subst hi';have c1:¬ (l.length:Int)<l.length:=om
  rw[zm,idxOf] at hI;simp only[go_sem,c1,hI,and_self]
theorem cg2 (l:List Int)(n:Int)(hl:l.length<2^40):PC Tryz.prog EE 73 [.aa4 (l.map Md.ad9),.int .i64 n] (.bool (decide (n∈l))):=by
 refine ba5 fok73 (nZ rfl) fun σ=>?_
 simp only[ic73,go_sem];refine aa3 fok116 (fb3 l n hl) ?_
 have e:decide (0<=idxOf n l 0)=decide (n∈l):=by
  by_cases h:n∈l
  ·simp[h,(dw1 n l 0).2 h]
  ·rw[decide_eq_false h,decide_eq_false (fun x=>h ((dw1 n l 0).1 x))]
 simp only[go_sem,e,and_self]
def sE (k:Str):IV×IV:=(.str k,.agg [])
theorem ii3 (l:List Str)(k:Str):eh8 2 (.str k) (.agg []) (l.map sE)=zc ((av6 l k).map sE):=by
 have go:∀ l:List Str,eh8 2 (.str k) (.agg []) (l.map sE)=zc ((if k∈l then l else l++[k]).map sE):=by
  intro l
  induction l with
  | nil=>rfl
  | cons a l ih=>
   simp only[zv,sE,eh8,dm6] at ih ⊢;by_cases h:k=a
   ·subst h; simp[sE]
   ·simp only[h,decide_false,zi,false_or] at ih ⊢;rw[ih];split<;>simp[sE]
 exact go l
theorem ef2 {σ:Store}{mid:Nat}{l:List Str}(h:σ.obj mid=zc (.map (l.map sE)))(k:Str):ao4 σ 2 (.map mid) (.str k) (.agg [])=zc (σ.put mid (.map ((av6 l k).map sE))):=by
 simp only[ao4,h,ii3,zy]
theorem gx9 {l:List Str}(h:l.Nodup)(k:Str):(av6 l k).Nodup:=by
 unfold av6;split
 ·exact h
 ·rename_i hk;refine List.nodup_append.2 ⟨h,by simp,fun a ha b hb e=>?_⟩;cases z7.1 hb;exact hk (e▸ha)
theorem ct2:∀ (ks:List Str) {l:List Str},l.Nodup->(ks.foldl av6 l).Nodup
 | [],_,h=>h
 | k::ks,_,h=>ct2 ks (gx9 h k)
theorem je3 (p:aa2):(cy7 p).Nodup:=ct2 _ (ct2 _ (by simp))
theorem gd1 (p:aa2)(hp:p.Fit):PC Tryz.prog EE 72 [.agg p.cs] (.ak9 ((cy7 p).map sE)):=by
 have f1:=hp.au1.1;have f2:=hp.files.1;refine ae6 hE fok72 (nZ rfl) (fun a ha=>by cases z7.1 ha; exact .agg _ (av1 p)) ?_;simp only[ic72,go_sem,ac9,aa2.cs,bo9];rw[ef2 (l:=[]) (by simp only[aa5,if_true]; rfl)];simp only[go_sem];refine ab3 noT (fun i fr s=>fr=[(1,.ab9 p.cs),(3,.map 0),(14,deps p.provides),(15,.int .i64 p.provides.length),(16,.int .i64 i)]/\1<=s.next/\s.obj 0=zc (.map ((((p.provides.take i).map (·.name)).foldl av6 [p.name]).map sE))) p.provides.length ⟨rfl,by simp,by simp only[aa5,if_true]; rfl⟩ ?_;rintro i fr s hle ⟨rfl,hn,ho⟩;by_cases hlt:i<p.provides.length
 ·obtain ⟨x,hx,_,hdr,hget,htk⟩:=ad6 p.provides i hlt;have c1:(i:Int)<p.provides.length:=om
  have c2:(0:Int)<=i:=om
  have c3:¬ 0=s.next:=om
  have w1:=ad1 (i:=i) om;simp only[go_sem,c1,c2,hget,Dep.cs];rw[ef2 (l:=((p.provides.take i).map (·.name)).foldl av6 [p.name]) (by simp only[aa5,c3,if_false]; exact ho)];simp only[go_sem,w1];refine ⟨hlt,?_⟩;rw[htk,zg,qh]
  first|rfl|(simp only[aa5,if_true]; rfl)
 have hi':i=p.provides.length:=om
 subst hi';have c1:¬ (p.provides.length:Int)<p.provides.length:=om
 rw[zq] at ho;simp only[go_sem,c1,aa2.cs];refine ab3 noT (fun i fr s=>fr=[(3,.map 0),(26,strs p.files),(27,.int .i64 p.files.length),(28,.int .i64 i)]/\s.obj 0=zc (.map (((p.files.take i).foldl av6 ((p.provides.map (·.name)).foldl av6 [p.name])).map sE))) p.files.length ⟨rfl,ho⟩ ?_;rintro i fr s hle ⟨rfl,ho⟩;by_cases hlt:i<p.files.length
 ·obtain ⟨x,hx,_,hdr,hget,htk⟩:=ad6 p.files i hlt;have c1:(i:Int)<p.files.length:=om
  have c2:(0:Int)<=i:=om
  have w1:=ad1 (i:=i) om;simp only[go_sem,c1,c2,hget,cb9];rw[ef2 ho];simp only[go_sem,w1];refine ⟨hlt,?_⟩;rw[htk,qh]
  first|rfl|(simp only[aa5,if_true]; rfl)
 have hi':i=p.files.length:=om
 subst hi';have c1:¬ (p.files.length:Int)<p.files.length:=om
 rw[zq] at ho;simp only[go_sem,c1];refine .map 0 _ _ _ (zk _) ho rfl (qb.refl _) ⟨?_,.str,fun e he=>?_⟩ (fun i hi=>?_) (fun i hi=>?_)
 ·have:((cy7 p).map sE).map (·.1)=(cy7 p).map IV.str:=by simp[sE]
  rw[this];exact qa.map _ (fun a b hab e=>hab (by cases e; rfl)) (je3 p)
 ·obtain ⟨k,_,rfl⟩:=zb.1 he;trivial
 ·exact .keep _ (by
   obtain ⟨k,_,e⟩:=zb.1 (ad2 (.undef,.undef) hi);rw[<- e]; exact .str _)
 ·exact .keep _ (by
   obtain ⟨k,_,e⟩:=zb.1 (ad2 (.undef,.undef) hi);rw[<- e]; exact .agg _ fun c hc=>by cases hc)
end Go.Id.Tryz
namespace Go.Id.Tryz
open Go Go.Id Go.Proofs Go.Id.Md
theorem ef3 (nm:Nms):Bnd 0 (.ak9 (nmV nm)):=by
 refine .ak9 _ (fun e he=>?_) (fun e he=>?_)<;>(simp only[nmV,zb] at he; obtain ⟨t,_,rfl⟩:=he)
 ·exact .str _
 ·refine .aa4 _ fun x hx c hc=>?_
  obtain ⟨n,_,rfl⟩:=zb.1 hx
  cases hc with
  | head=>exact .int _ _
  | tail _ h=>cases h
theorem ii4 (l:List be6):Bnd 0 (.aa4 (l.map be6.cs)):=.aa4 _ fun e he c hc=>by
 obtain ⟨r,_,rfl⟩:=zb.1 he; exact fk5 r c hc
theorem bg2 (p:Pool):Bnd 0 p.v:=.ab9 _ fun c hc=>by
 simp only[zi,zh,or_false] at hc;rcases hc with rfl|rfl|rfl
 ·exact ii4 _
 ·exact .int _ _
 ·exact ef3 _
theorem gy1 (l:List be6)(n:Int):PC Tryz.prog EE 76 [.aa4 (l.map be6.cs),.int .i64 n] (.bool (decide (0<=n)&&decide (n<l.length))):=by
 refine ba5 fok76 (nZ rfl) fun σ=>?_
 by_cases h:0<=n
 ·simp only[ic76,go_sem,h,and_self]
 ·simp only[ic76,go_sem,h,and_self]
theorem av9 (p:Pool):PC Tryz.prog EE 31 [p.v] (.int .i64 p.rows.length):=by
 refine ba5 fok31 (nZ rfl) fun σ=>?_
 simp only[ic31,go_sem,Pool.v,and_self]
theorem ba8 (p:Pool):PC Tryz.prog EE 42 [p.v] (.int .i64 p.inst):=by
 refine ba5 fok42 (nZ rfl) fun σ=>?_
 simp only[ic42,go_sem,Pool.v,and_self]
theorem ii5 (r:be6):r.cs.take 15=r.pkg.cs:=rfl
theorem as9 (p:Pool)(n:Nat)(h:n<p.rows.length)(hf:p.rows[n].pkg.Fit):PC Tryz.prog EE 45 [p.v,.int .i64 n] (.tuple [.agg p.rows[n].pkg.cs,.int .i64 0]):=by
 refine ae6 hE fok45 (nZ rfl) (ao8 (bg2 p) (.int _ _)) ?_;have c1:(n:Int)<p.rows.length:=om
 have c2:(0:Int)<=n:=om
 have hg:(p.rows.map be6.cs).getD n []=p.rows[n].cs:=by simp[zf,h]
 have h15:∀ r:be6,(15<=r.cs.length)=True:=fun r=>by rw[bx7]; simp
 simp only[ic45,go_sem,Pool.v];refine aa3 fok76 (gy1 p.rows n) ?_;simp only[go_sem,c1,c2,hg,bx7,ii5];refine aa3 fok64 (dv9 _ hf) ?_;simp only[go_sem,af6,af4,ac9];exact .keep _ (.tuple _ (ao8 (ao6 _) (.int _ _)))
end Go.Id.Tryz
namespace Go.Id.Tryz
open Go Go.Id Go.Proofs Go.Id.Md
structure MS (s:Store) (tag:Nat->Nat) (c mid:Nat) (L:NmL) (B:Nat):Prop where
 map:s.obj mid=zc (.map (mEs L))
 row:∀ t∈L,s.obj t.2.2=zc (.row (t.2.1.map Md.ad9).flatten)/\t.2.2<s.next/\t.2.1.length<=B
 cv3:∀ t∈L,tag t.2.2=c
 ids:(L.map (·.2.2)).Nodup
 keys:(L.map (·.1)).Nodup
 lt:mid<s.next
 ii7:tag mid=c
theorem MS.keep {s s':Store}{tag tag':Nat->Nat}{c mid:Nat}{L:NmL}{B B':Nat}(h:MS s tag c mid L B)(hB:B<=B')(hn:s.next<=s'.next)(ho:∀ i,i<s.next->tag i=c->s'.obj i=s.obj i)(ht:∀ i,i<s.next->tag' i=tag i):MS s' tag' c mid L B' where
 map:=by rw[ho _ h.lt h.ii7]; exact h.map
 row:=fun t m=>⟨by rw[ho _ (h.row t m).2.1 (h.cv3 t m)]; exact (h.row t m).1,by have:=(h.row t m).2.1; omega,by have:=(h.row t m).2.2; omega⟩
 cv3:=fun t m=>by rw[ht _ (h.row t m).2.1]; exact h.cv3 t m
 ids:=h.ids
 keys:=h.keys
 lt:=by have:=h.lt; omega
 ii7:=by rw[ht _ h.lt]; exact h.ii7
def fb4 (tag:Nat->Nat)(c nid:Nat):Nat->Nat:=fun i=>if i=nid then c else tag i
theorem as1 {tag:Nat->Nat}{c nid n:Nat}(h:n<=nid):∀ i,i<n->fb4 tag c nid i=tag i:=fun i hi=>by
 unfold fb4; rw[if_neg om]
theorem MS.cur {s:Store}{tag:Nat->Nat}{c mid:Nat}{L:NmL}{B:Nat}(h:MS s tag c mid L B)(k:Str)(m:Nat)(hm:s.next<=m):Grow ⟨m,s.obj⟩ (de3 L k) 1 ((ch9 L k).map Md.ad9)/\(ch9 L k).length<=B:=by
 rcases ce5 L k with ⟨h1,h2⟩|⟨t,ht,_,h1,h2⟩
 ·rw[h1,h2]; exact ⟨.inl ⟨rfl,rfl⟩,z5 _⟩
 ·rw[h1,h2]; exact ⟨.inr ⟨t.2.2,by rw[za],(h.row t ht).1,by have:=(h.row t ht).2.1; show t.2.2<m; omega⟩,(h.row t ht).2.2⟩
theorem MS.upd {s:Store}{tag:Nat->Nat}{c mid:Nat}{L:NmL}{B:Nat}(h:MS s tag c mid L B)(k:Str)(n:Int)(m nid:Nat)(hm:s.next<=m)(hnew:s.next<=nid)(hb:B<2^30) :
  ∃ s1,be9 ⟨m,s.obj⟩ nid 1 (de3 L k) (.aa4 [[.int .i64 n]])=zc (.slice nid 0 ((ch9 L k).length+1) 1,s1)/\s1.next=m/\s1.obj mid=zc (.map (mEs L))/\(∀ i o,i<s.next->s.obj i=zc o->(∀ cs,o≠.row cs)->s1.obj i=zc o) /\
   ∀ nx,nid<nx->MS ⟨nx,(s1.put mid (.map (mEs (be7 L k n nid)))).obj⟩ (fb4 tag c nid) c mid (be7 L k n nid) (B+1)/\∀ i,i<s.next->tag i≠c->(s1.put mid (.map (mEs (be7 L k n nid)))).obj i=s.obj i:=by
 obtain ⟨hg,hlen⟩:=h.cur k m hm;have hap:=aj8 (nid:=nid) (e:=[.int .i64 n]) hg (cb3 _) ⟨rfl,rfl⟩ (by rw[za]; omega);rw[za] at hap;have hlt:=h.lt;have hmid:¬ mid=nid:=om
 have kother:∀ i,(∀ t∈L,t.1=k->t.2.2≠i)->(ae7 (de3 L k) ⟨m,s.obj⟩).obj i=s.obj i:=by
  intro i hne;rcases ce5 L k with ⟨h1,_⟩|⟨t,ht,hk,h1,_⟩
  ·rw[h1]; rfl
  ·rw[h1];show (if i=t.2.2 then z9 else s.obj i)=_;rw[if_neg (fun e=>hne t ht hk e.symm)]
 have hrow_ne_mid:∀ i cs,s.obj i=zc (.row cs)->¬ i=mid:=fun i cs hi e=>by subst e; rw[h.map] at hi; cases hi
 refine ⟨_,hap,by rw[ab2,ac2],?_,?_,fun nx hnx=>⟨?_,?_⟩⟩
 ·rw[aa5,if_neg hmid]; exact af8 hg mid _ h.map (fun _ e=>by cases e)
 ·intro i o hi ho hr;rw[aa5,if_neg om]; exact af8 hg i _ ho hr
 ·exact {
   map:=by
    show (if mid=mid then _ else _)=_;rw[if_pos rfl]
   row:=by
    intro t ht;rcases eb9 h.keys t ht with ⟨h1,h2⟩|rfl
    ·obtain ⟨r1,r2,r3⟩:=h.row t h1;refine ⟨?_,by show t.2.2<nx; omega,om⟩;show (if t.2.2=mid then _ else if t.2.2=nid then _ else (ae7 (de3 L k) ⟨m,s.obj⟩).obj t.2.2)=_;rw[if_neg (hrow_ne_mid _ _ r1),if_neg om,kother _ fun u hu hk e=>h2 (by rw[<- gq4 h.keys h.ids u hu t h1 e]; exact hk)];exact r1
    ·refine ⟨?_,hnx,?_⟩
     ·show (if nid=mid then _ else if nid=nid then _ else _)=_;rw[if_neg (fun e=>hmid e.symm),if_pos rfl,zg];rfl
     ·show (ch9 L k++[n]).length<=B+1;rw[ze]; simp; exact hlen
   cv3:=by
    intro t ht;rcases eb9 h.keys t ht with ⟨h1,h2⟩|rfl
    ·rw[as1 hnew _ (h.row t h1).2.1]; exact h.cv3 t h1
    ·unfold fb4; rw[if_pos rfl]
   ids:=(gq3 L h.ids (fun hm=>by
    obtain ⟨t,ht,e⟩:=zb.1 hm;have:=(h.row t ht).2.1;have e':t.2.2=nid:=e;omega)).1
   keys:=(fg7 L h.keys).1
   lt:=by show mid<nx; omega
   ii7:=by rw[as1 hnew _ h.lt]; exact h.ii7 }
 ·intro i hi hc;show (if i=mid then _ else if i=nid then _ else (ae7 (de3 L k) ⟨m,s.obj⟩).obj i)=_;rw[if_neg (fun e=>hc (by rw[e]; exact h.ii7)),if_neg om,kother _ fun t ht _ e=>hc (by rw[<- e]; exact h.cv3 t ht)]
theorem MS.frz {s:Store}{tag:Nat->Nat}{c mid:Nat}{L:NmL}{B:Nat}(h:MS s tag c mid L B){nm:Nms}(hp:(bd6 L).Perm nm):cu4 s 0 (.map mid) (.ak9 (nmV nm)):=by
 have hat:∀ i,i<(mEs L).length->∃ t∈L,(mEs L).getD i (.undef,.undef)=(.str t.1,.slice t.2.2 0 t.2.1.length 1)/\(nmV (bd6 L)).getD i (.undef,.undef)=(.str t.1,.aa4 (t.2.1.map Md.ad9)):=by
  intro i hi;have hi':i<L.length:=by simpa [mEs] using hi
  exact ⟨L[i],zu hi',by simp[mEs,zf,hi'],by simp[nmV,bd6,zf,hi']⟩
 have hkn:KN nm:=KN.perm (nm:=bd6 L) (by show ((bd6 L).map (·.1)).Nodup; unfold bd6; rw[z1]; exact h.keys) hp;refine .map mid (mEs L) (nmV (bd6 L)) (nmV nm) (zk _) h.map (by simp[nmV,bd6,mEs]) (hp.map _) ⟨?_,.str,fun e he=>?_⟩ (fun i hi=>?_) (fun i hi=>?_)
 ·have:(nmV nm).map (·.1)=(nm.map (·.1)).map IV.str:=by simp[nmV]
  rw[this];exact qa.map _ (fun a b hab e=>hab (by cases e; rfl)) hkn
 ·simp only[nmV,zb] at he;obtain ⟨t,_,rfl⟩:=he;trivial
 ·obtain ⟨t,ht,e1,e2⟩:=hat i hi;rw[e1,e2]; exact bl7 _
 ·obtain ⟨t,ht,e1,e2⟩:=hat i hi;rw[e1,e2];obtain ⟨r1,r2,_⟩:=h.row t ht;have hg:Grow s (.slice t.2.2 0 t.2.1.length 1) 1 (t.2.1.map Md.ad9):=.inr ⟨t.2.2,by rw[za],r1,r2⟩;refine hg.frz (fun x hx=>(cb3 _ x hx).1) (fun _ _=>zk _) fun e he c hc=>?_
  obtain ⟨n,_,rfl⟩:=zb.1 he
  cases hc with
  | head=>exact .int _ _
  | tail _ h=>cases h
structure IS (s:Store) (pp m1 m2 m3:Nat) (all:List aa2) (rv:IV) (L1 L2 L3:NmL) (tag:Nat->Nat) (B:Nat):Prop where
 cell:s.obj pp=zc (.cells [rv,.map m1,.map m2,.map m3])
 ltp:pp<s.next
 grow:Grow s rv 15 (all.map aa2.cs)
 cv3:∀ id n,rv=.slice id 0 n 15->tag id=0
 m1:MS s tag 1 m1 L1 B
 m2:MS s tag 2 m2 L2 B
 m3:MS s tag 3 m3 L3 B
 eq3:tag pp=4
theorem IS.mono {s s':Store}{pp m1 m2 m3:Nat}{all:List aa2}{rv:IV}{L1 L2 L3:NmL}{tag:Nat->Nat}{B B':Nat}(h:IS s pp m1 m2 m3 all rv L1 L2 L3 tag B)(hB:B<=B')(hn:s.next<=s'.next)(ho:∀ i,i<s.next->s'.obj i=s.obj i):IS s' pp m1 m2 m3 all rv L1 L2 L3 tag B' where
 cell:=by rw[ho _ h.ltp]; exact h.cell
 ltp:=by have:=h.ltp; omega
 grow:=h.grow.mono hn fun id _ hid=>ho id hid
 cv3:=h.cv3
 m1:=h.m1.keep hB hn (fun i hi _=>ho i hi) fun _ _=>rfl
 m2:=h.m2.keep hB hn (fun i hi _=>ho i hi) fun _ _=>rfl
 m3:=h.m3.keep hB hn (fun i hi _=>ho i hi) fun _ _=>rfl
 eq3:=h.eq3
theorem az1 {s s':Store}{rv:IV}{es:List (List IV)}{tag:Nat->Nat}(h:Grow s rv 15 es)(ht:∀ id n,rv=.slice id 0 n 15->tag id=0)(hn:s.next<=s'.next)(ho:∀ i,i<s.next->tag i=0->s'.obj i=s.obj i):Grow s' rv 15 es :=
 h.mono hn fun id hv hid=>ho id hid (ht id _ hv)
theorem ef4 {s:Store}{rv:IV}{es:List (List IV)}{tag:Nat->Nat}{c nid:Nat}(h:Grow s rv 15 es)(ht:∀ id n,rv=.slice id 0 n 15->tag id=0)(hn:s.next<=nid):∀ id n,rv=.slice id 0 n 15->fb4 tag c nid id=0:=fun id n hv=>by
 rcases h with ⟨h1,_⟩|⟨id',h1,_,hlt⟩
 ·rw[h1] at hv; cases hv
 ·have e:id'=id:=by rw[h1] at hv; cases hv; rfl
  subst e;rw[as1 hn _ hlt]; exact ht _ _ hv
theorem IS.of1 {s s':Store}{pp m1 m2 m3 nid:Nat}{all:List aa2}{rv:IV}{L1 L2 L3 L':NmL}{tag:Nat->Nat}{B:Nat}(h:IS s pp m1 m2 m3 all rv L1 L2 L3 tag B)(hn:s.next<=s'.next)(hnid:s.next<=nid)(hm:MS s' (fb4 tag 1 nid) 1 m1 L' (B+1))(ho:∀ i,i<s.next->tag i≠1->s'.obj i=s.obj i):IS s' pp m1 m2 m3 all rv L' L2 L3 (fb4 tag 1 nid) (B+1) where
 cell:=by rw[ho _ h.ltp (by rw[h.eq3]; decide)]; exact h.cell
 ltp:=by have:=h.ltp; omega
 grow:=az1 h.grow h.cv3 hn fun i hi e=>ho i hi (by rw[e]; decide)
 cv3:=ef4 h.grow h.cv3 hnid
 m1:=hm
 m2:=h.m2.keep (zr _) hn (fun i hi e=>ho i hi (by rw[e]; decide)) (as1 hnid)
 m3:=h.m3.keep (zr _) hn (fun i hi e=>ho i hi (by rw[e]; decide)) (as1 hnid)
 eq3:=by rw[as1 hnid _ h.ltp]; exact h.eq3
theorem IS.of2 {s s':Store}{pp m1 m2 m3 nid:Nat}{all:List aa2}{rv:IV}{L1 L2 L3 L':NmL}{tag:Nat->Nat}{B:Nat}(h:IS s pp m1 m2 m3 all rv L1 L2 L3 tag B)(hn:s.next<=s'.next)(hnid:s.next<=nid)(hm:MS s' (fb4 tag 2 nid) 2 m2 L' (B+1))(ho:∀ i,i<s.next->tag i≠2->s'.obj i=s.obj i):IS s' pp m1 m2 m3 all rv L1 L' L3 (fb4 tag 2 nid) (B+1) where
 cell:=by rw[ho _ h.ltp (by rw[h.eq3]; decide)]; exact h.cell
 ltp:=by have:=h.ltp; omega
 grow:=az1 h.grow h.cv3 hn fun i hi e=>ho i hi (by rw[e]; decide)
 cv3:=ef4 h.grow h.cv3 hnid
 m1:=h.m1.keep (zr _) hn (fun i hi e=>ho i hi (by rw[e]; decide)) (as1 hnid)
 m2:=hm
 m3:=h.m3.keep (zr _) hn (fun i hi e=>ho i hi (by rw[e]; decide)) (as1 hnid)
 eq3:=by rw[as1 hnid _ h.ltp]; exact h.eq3
theorem IS.of3 {s s':Store}{pp m1 m2 m3 nid:Nat}{all:List aa2}{rv:IV}{L1 L2 L3 L':NmL}{tag:Nat->Nat}{B:Nat}(h:IS s pp m1 m2 m3 all rv L1 L2 L3 tag B)(hn:s.next<=s'.next)(hnid:s.next<=nid)(hm:MS s' (fb4 tag 3 nid) 3 m3 L' (B+1))(ho:∀ i,i<s.next->tag i≠3->s'.obj i=s.obj i):IS s' pp m1 m2 m3 all rv L1 L2 L' (fb4 tag 3 nid) (B+1) where
 cell:=by rw[ho _ h.ltp (by rw[h.eq3]; decide)]; exact h.cell
 ltp:=by have:=h.ltp; omega
 grow:=az1 h.grow h.cv3 hn fun i hi e=>ho i hi (by rw[e]; decide)
 cv3:=ef4 h.grow h.cv3 hnid
 m1:=h.m1.keep (zr _) hn (fun i hi e=>ho i hi (by rw[e]; decide)) (as1 hnid)
 m2:=h.m2.keep (zr _) hn (fun i hi e=>ho i hi (by rw[e]; decide)) (as1 hnid)
 m3:=hm
 eq3:=by rw[as1 hnid _ h.ltp]; exact h.eq3
theorem ax2 (l:List aa2):∀ e∈l.map aa2.cs,e.length=15/\e.all IV.leaf=true:=fun e he=>by
 obtain ⟨x,_,rfl⟩:=zb.1 he;exact ⟨af6 x,ac9 x⟩
theorem IS.push {s:Store}{pp m1 m2 m3:Nat}{all:List aa2}{rv:IV}{L1 L2 L3:NmL}{tag:Nat->Nat}{B:Nat}(h:IS s pp m1 m2 m3 all rv L1 L2 L3 tag B)(x:aa2)(m nid:Nat)(hm:s.next<=m)(hnew:s.next<=nid)(hb:all.length<2^30) :
  ∃ s1,be9 ⟨m,s.obj⟩ nid 15 rv (.aa4 [x.cs])=zc (.slice nid 0 (all.length+1) 15,s1)/\s1.next=m/\s1.obj pp=s.obj pp/\(∀ i o,i<s.next->s.obj i=zc o->(∀ cs,o≠.row cs)->s1.obj i=zc o) /\
   ∀ nx,nid<nx->IS ⟨nx,(s1.put pp (.cells [.slice nid 0 (all.length+1) 15,.map m1,.map m2,.map m3])).obj⟩ pp m1 m2 m3 (all++[x]) (.slice nid 0 (all.length+1) 15) L1 L2 L3 (fb4 tag 0 nid) B:=by
 have hg:Grow ⟨m,s.obj⟩ rv 15 (all.map aa2.cs):=Grow.mono (σ:=s) h.grow hm fun _ _ _=>rfl
 have hap:=aj8 (nid:=nid) (e:=x.cs) hg (ax2 all) ⟨af6 x,ac9 x⟩ (by rw[za]; omega);rw[za] at hap;have hlt:=h.ltp;have hpp:¬ pp=nid:=om
 have kp:=af8 hg pp _ h.cell (fun _ e=>by cases e)
 have kk:∀ i,i<s.next->tag i≠0->tag i≠4->((ae7 rv ⟨m,s.obj⟩).put nid (.row (all.map aa2.cs++[x.cs]).flatten) |>.put pp (.cells [.slice nid 0 (all.length+1) 15,.map m1,.map m2,.map m3])).obj i=s.obj i:=by
  intro i hi h0 h4;show (if i=pp then _ else if i=nid then _ else (ae7 rv ⟨m,s.obj⟩).obj i)=_;rw[if_neg (fun e=>h4 (by rw[e]; exact h.eq3)),if_neg om];rcases h.grow with ⟨hv,_⟩|⟨id,hv,ho,hl⟩
  ·rw[hv]; rfl
  ·have ht:=h.cv3 id _ hv;rw[hv];show (if i=id then z9 else s.obj i)=_;rw[if_neg (fun e=>h0 (by rw[e]; exact ht))]
 refine ⟨_,hap,by rw[ab2,ac2],by rw[aa5,if_neg hpp,kp,h.cell],?_,fun nx hnx=>?_⟩
 ·intro i o hi ho hr;rw[aa5,if_neg om]; exact af8 hg i _ ho hr
 ·exact {
   cell:=by
    show (if pp=pp then _ else _)=_;rw[if_pos rfl]
   ltp:=by show pp<nx; omega
   grow:=by
    refine .inr ⟨nid,by rw[zg,ze,za]; rfl,?_,hnx⟩;show (if nid=pp then _ else if nid=nid then _ else _)=_;rw[if_neg (fun e=>hpp e.symm),if_pos rfl,zg]; rfl
   cv3:=fun id n hv=>by cases hv; unfold fb4; rw[if_pos rfl]
   m1:=h.m1.keep (zd _) (by show s.next<=nx; omega) (fun i hi e=>kk i hi (by rw[e]; decide) (by rw[e]; decide)) (as1 hnew)
   m2:=h.m2.keep (zd _) (by show s.next<=nx; omega) (fun i hi e=>kk i hi (by rw[e]; decide) (by rw[e]; decide)) (as1 hnew)
   m3:=h.m3.keep (zd _) (by show s.next<=nx; omega) (fun i hi e=>kk i hi (by rw[e]; decide) (by rw[e]; decide)) (as1 hnew)
   eq3:=by rw[as1 hnew _ h.ltp]; exact h.eq3 }
theorem IS.frz {s:Store}{pp m1 m2 m3:Nat}{all:List aa2}{rv:IV}{L1 L2 L3:NmL}{tag:Nat->Nat}{B:Nat}(h:IS s pp m1 m2 m3 all rv L1 L2 L3 tag B){x:Index}(h0:x.all=all)(h1:(bd6 L1).Perm x.au1)(h2:(bd6 L2).Perm x.names)(h3:(bd6 L3).Perm x.over):cu4 s 0 (.ptr pp 0) x.v:=by
 subst h0;refine .ptr pp 0 _ _ (zk _) (.inl h.cell) (zd _) fun j hj=>?_
 have hj3:j=0\/j=1\/j=2\/j=3:=by simp only[zl,zw] at hj; omega
 rcases hj3 with rfl|rfl|rfl|rfl
 ·refine h.grow.frz (fun x hx=>(ax2 _ x hx).1) (fun _ _=>zk _) fun e he c hc=>?_
  obtain ⟨r,_,rfl⟩:=zb.1 he;exact av1 r c hc
 ·exact h.m1.frz h1
 ·exact h.m2.frz h2
 ·exact h.m3.frz h3
theorem MS.gy2 {s s':Store}{tag:Nat->Nat}{c mid:Nat}{L:NmL}{B B':Nat}(h:MS s tag c mid L B)(hB:B<=B')(hn:s.next<=s'.next)(ho:∀ i o,i<s.next->s.obj i=zc o->(∀ l c,o≠.as3 l c)->s'.obj i=zc o):MS s' tag c mid L B' where
 map:=ho _ _ h.lt h.map (fun _ _ e=>by cases e)
 row:=fun t m=>⟨ho _ _ (h.row t m).2.1 (h.row t m).1 (fun _ _ e=>by cases e),by have:=(h.row t m).2.1; omega,by have:=(h.row t m).2.2; omega⟩
 cv3:=h.cv3
 ids:=h.ids
 keys:=h.keys
 lt:=by have:=h.lt; omega
 ii7:=h.ii7
theorem IS.gy2 {s s':Store}{pp m1 m2 m3:Nat}{all:List aa2}{rv:IV}{L1 L2 L3:NmL}{tag:Nat->Nat}{B B':Nat}(h:IS s pp m1 m2 m3 all rv L1 L2 L3 tag B)(hB:B<=B')(hn:s.next<=s'.next)(ho:∀ i o,i<s.next->s.obj i=zc o->(∀ l c,o≠.as3 l c)->s'.obj i=zc o):IS s' pp m1 m2 m3 all rv L1 L2 L3 tag B' where
 cell:=ho _ _ h.ltp h.cell (fun _ _ e=>by cases e)
 ltp:=by have:=h.ltp; omega
 grow:=by
  rcases h.grow with h0|⟨id,hv,hr,hid⟩
  ·exact .inl h0
  ·exact .inr ⟨id,hv,ho _ _ hid hr (fun _ _ e=>by cases e),om⟩
 cv3:=h.cv3
 m1:=h.m1.gy2 hB hn ho
 m2:=h.m2.gy2 hB hn ho
 m3:=h.m3.gy2 hB hn ho
 eq3:=h.eq3
theorem eq2 {α β:Type}(f:α->β):∀ (l:List α) (k:Nat),(l.map f).eraseIdx k=(l.eraseIdx k).map f
 | [],_=>rfl
 | _::_,0=>rfl
 | a::l,k+1=>by simp[eq2 f l k]
theorem dw2 {α:Type}:∀ (l:List α) (k:Nat) (h:k<l.length),l.Perm (l[k]::l.eraseIdx k)
 | [],k,h=>by simp at h
 | a::l,0,_=>.refl _
 | a::l,k+1,h=>((dw2 l k (by simpa using h)).cons a).trans (.swap _ _ _)
theorem kg2 {s:Store}{id:Nat}{l:List (IV×IV)}{c:Option (IV×IV)}(h:s.obj id=zc (.as3 l c)):bp5 s (.ptr id 0)=zc (id,l):=by simp only[bp5,h]
theorem kg3 {s:Store}{id:Nat}{l:List (IV×IV)}{c:IV×IV}(h:s.obj id=zc (.as3 l (zc c))):cw3 s (.ptr id 0)=zc (.tuple [c.1,c.2]):=by simp only[cw3,h]
end Go.Id.Tryz
namespace Go.Id.Tryz
open Go Go.Id Go.Proofs Go.Id.Md
theorem cb2:∀ (ks l:List Str),(ks.foldl av6 l).length<=l.length+ks.length
 | [],l=>zd _
 | k::ks,l=>by
  refine zo (cb2 ks _) ?_
  have:(av6 l k).length<=l.length+1:=by
   unfold av6; split
   ·omega
   ·simp
  simp only[zl]; omega
theorem ii6 (p:aa2):(cy7 p).length<=p.provides.length+p.files.length+1:=by
 refine zo (cb2 _ _) ?_;have:=cb2 (p.provides.map (·.name)) [p.name];simp only[za,zl,zw] at this;omega
theorem be3 (p:Pool)(hf:∀ r∈p.rows,r.pkg.Fit)(hlen:p.rows.length<=2^14)(hs:∀ r∈p.rows,r.pkg.provides.length+r.pkg.files.length+r.pkg.aa8.length+3<=2^15) :
  PC Tryz.prog EE 43 [p.v] (.tuple [(ad7 (p.rows.map (·.pkg))).v,.int .i64 0]):=by
 obtain ⟨pk,hpk0⟩:∃ pk,p.rows.map (·.pkg)=pk:=⟨_,rfl⟩;have hpl:pk.length=p.rows.length:=by rw[<- hpk0,za]
 rw[hpk0];obtain ⟨W,hW⟩:∃ W:Nat,W=2^15:=⟨_,rfl⟩;have hC:=av9 p;have hP:=fun (n:Nat) (h:n<p.rows.length)=>as9 p n h (hf _ (zu h))
 have hb:=bg2 p;obtain ⟨cs,hcs⟩:∃ cs,p.v=.ab9 cs:=⟨_,rfl⟩;rw[hcs] at hC hP hb ⊢;refine ae6 hE fok43 (nZ rfl) (fun a ha=>by cases z7.1 ha; exact hb) ?_;simp only[ic43,go_sem];refine aa3 fok31 hC ?_;simp only[go_sem]
 refine ab3 noT (fun i fr s=>fr=[(0,.ab9 cs),(4,.ptr 3 0),(19,.int .i64 p.rows.length),(20,.int .i64 i)]/\∃ rv L1 L2 L3 tag,IS s 3 0 1 2 (pk.take i) rv L1 L2 L3 tag (i*W) /\
  (bd6 L1).Perm (ad7 (pk.take i)).au1/\(bd6 L2).Perm (ad7 (pk.take i)).names/\(bd6 L3).Perm (ad7 (pk.take i)).over) p.rows.length ⟨rfl,.aa1,[],[],[],(fun i=>if i=0 then 1 else if i=1 then 2 else if i=2 then 3 else 4),?_,.refl _,.refl _,.refl _⟩ ?_
 ·have e0:∀ (c mid:Nat) (L:NmL) (st:Store) (tag:Nat->Nat),L=[]->st.obj mid=zc (.map [])->mid<st.next->tag mid=c->MS st tag c mid L (0*W):=fun c mid L st tag h1 h2 h3 h4=>by
   subst h1;exact { map:=h2,row:=fun t ht=>(by cases ht),cv3:=fun t ht=>(by cases ht),ids:=z4,keys:=z4,lt:=h3,ii7:=h4 }
  refine { cell:=rfl,ltp:=Nat.lt_succ_self 3,grow:=.inl ⟨rfl,rfl⟩,cv3:=fun id n h=>(by cases h),m1:=e0 1 0 [] _ _ rfl rfl ?_ rfl,m2:=e0 2 1 [] _ _ rfl rfl ?_ rfl,m3:=e0 3 2 [] _ _ rfl rfl ?_ rfl,eq3:=rfl }
  ·show 0<4; decide
  ·show 1<4; decide
  ·show 2<4; decide
 rintro i fr s hle ⟨rfl,rv,L1,L2,L3,tag,hI,p1,p2,p3⟩;by_cases hlt:i<p.rows.length
 ·have c1:(i:Int)<p.rows.length:=om
  have c2:(0:Int)<=i:=om
  have w1:=ad1 (i:=i) om;have hQ:=hP i hlt;have hx:p.rows[i]∈p.rows:=zu hlt;have hfx:=hf _ hx;have hsx:=hs _ hx
  have htk:pk.take (i+1)=pk.take i++[p.rows[i].pkg]:=by
   rw[<- hpk0,List.take_add_one,List.getElem?_map,zz hlt]; rfl
  generalize hpk:p.rows[i].pkg=x at *;simp only[go_sem,c1,c2];refine aa3 fok45 hQ ?_;have e3:¬ 3=s.next:=by have:=hI.ltp; omega
  have hiW:i*W+W<=2^29:=by
   have h1:i*W+W=(i+1)*W:=(Nat.succ_mul i W).symm;rw[h1,hW]; omega
  have hWx:x.provides.length+x.files.length+x.aa8.length+3<=W:=by rw[hW]; exact hsx
  have e3':¬ s.next=3:=fun e=>e3 e.symm
  simp only[go_sem,af6,af4,ac9,e3,hI.cell,zj];generalize hS:Store.put (Store.put _ s.next _) s.next (aj5.cells x.cs)=S1;have hS1:S1.next=s.next+1:=by rw[<- hS]; rfl
  have hbx:S1.obj s.next=zc (.cells x.cs):=by rw[<- hS]; simp only[aa5,if_true]
  have h1:IS S1 3 0 1 2 (pk.take i) rv L1 L2 L3 tag (i*W):=hI.mono (zd _) om fun j hj=>by
   have e:¬ j=s.next:=om
   rw[<- hS]; simp only[aa5,e,if_false]
  clear hS;have hal:(pk.take i).length=i:=by rw[zs]; omega
  obtain ⟨t1,ha1,ha2,ha3,ha4,hps⟩:=h1.push x (s.next+12) (s.next+8) om om (by rw[hal]; omega);rw[hal] at ha1 hps;rw[ha1];have hc1:t1.obj 3=zc (.cells [rv,.map 0,.map 1,.map 2]):=by rw[ha3]; exact h1.cell
  have hb1:t1.obj s.next=zc (.cells x.cs):=ha4 _ _ om hbx (fun _ e=>by cases e);have h2:=hps t1.next om;generalize hX:(aj5.cells [.slice (s.next+8) 0 (i+1) 15,.map 0,.map 1,.map 2])=X at hps h2;have hlk2:∀ m,cc3 ⟨m,(t1.put 3 X).obj⟩ 2 .aa1 false (.map 1) (.str x.name)=zc (de3 L2 x.name):=fun m=>ii8 (σ:=⟨m,(t1.put 3 X).obj⟩) h2.m2.map x.name
  obtain ⟨t2,ib1,ib2,ib3,ib4,hpt⟩:=h2.m2.upd x.name (i:Int) (t1.next+17) (t1.next+15) (by show t1.next<=_; omega) (by show t1.next<=_; omega) om;simp only at ib1 ib3;subst hX;simp only[go_sem,e3',hc1,hb1,fk8,hlk2,ib1,zj];rw[fk7 ib3 x.name (i:Int) (t1.next+15)];have g3:3<s.next:=hI.ltp
  have hb2:(t2.put 1 (aj5.map (mEs (be7 L2 x.name (i:Int) (t1.next+15))))).obj s.next=zc (.cells x.cs):=by
   have e:¬ s.next=1:=om
   simp only[aa5,e,if_false];refine ib4 _ _ (by show s.next<t1.next; omega) ?_ (fun _ e=>by cases e);simp only[aa5,e3',if_false]; exact hb1
  have hn2:(t2.put 1 (aj5.map (mEs (be7 L2 x.name (i:Int) (t1.next+15))))).next=t1.next+17:=ib2;have hpt':=hpt (t2.put 1 (aj5.map (mEs (be7 L2 x.name (i:Int) (t1.next+15))))).next (by rw[hn2]; omega);have h3:=h2.of2 (s':=t2.put 1 (aj5.map (mEs (be7 L2 x.name (i:Int) (t1.next+15))))) (nid:=t1.next+15) (by rw[hn2]; show t1.next<=_; omega) (by show t1.next<=_; omega) hpt'.1 hpt'.2;clear hpt'
  have q2:(bd6 (be7 L2 x.name (i:Int) (t1.next+15))).Perm (ar2 (ad7 (pk.take i)).names x.name i):=by
   rw[cy6]; exact bw5 (by show ((bd6 L2).map (·.1)).Nodup; unfold bd6; rw[z1]; exact hI.m2.keys) p2
  generalize be7 L2 x.name (i:Int) (t1.next+15)=L2' at *;generalize t2.put 1 (aj5.map (mEs L2'))=S2 at *;generalize fb4 (fb4 tag 0 (s.next+8)) 2 (t1.next+15)=tag2 at *;clear hpt hps ib1 ib2 ib3 ib4 hlk2;simp only[go_sem,hb2,af6,af4,ac9];refine aa3 fok72 (gd1 x hfx) ?_;simp only[go_sem,zj];clear h1 h2 ha4 ha3 hc1 hb1 ha1 p2;have hkn1:KN (ad7 (pk.take i)).au1:=KN.perm (nm:=bd6 L1) (by show ((bd6 L1).map (·.1)).Nodup; unfold bd6; rw[z1]; exact hI.m1.keys) p1;have hol:(cy7 x).length<=x.provides.length+x.files.length+1:=ii6 x
  have hidx:ad7 (pk.take (i+1))=em7 (ad7 (pk.take i)) i x:=by
   rw[htk]; unfold ad7; rw[em8,hal,Nat.zero_add]
  generalize pk.take i++[x]=allI at *;generalize IV.slice (s.next+8) 0 (i+1) 15=rv2 at *;have hsm:¬ s.next=S2.next:=om
  refine ab3 noT (fun j fr t=>fr=[(0,.ab9 cs),(4,.ptr 3 0),(5,.int .i64 i),(6,.ptr s.next 0),(19,.int .i64 p.rows.length),(20,.int .i64 i),(60,.ptr S2.next 0)]/\S2.next+1<=t.next/\t.obj s.next=zc (.cells x.cs) /\
   ∃ done left cur L tg,(done++left).Perm (cy7 x)/\done.length=j/\t.obj S2.next=zc (.as3 (left.map sE) cur)/\IS t 3 0 1 2 allI rv2 L L2' L3 tg (i*W+1+j)/\(bd6 L).Perm (bd8 (ad7 (pk.take i)).au1 done i)) (cy7 x).length
   ⟨rfl,zd _,?_,[],cy7 x,z9,L1,tag2,.refl _,rfl,?_,?_,p1⟩ ?_
  ·simp only[aa5,hsm,if_false]; exact hb2
  ·simp only[aa5,if_true]
  ·refine h3.mono (zd _) (by show S2.next<=S2.next+1; omega) fun j hj=>?_
   have e:¬ j=S2.next:=om
   simp only[aa5,e,if_false]
  rintro j fr t hjle ⟨rfl,hnt,hbt,done,left,cur,L,tg,hpm,hdl,hmi,hIt,hpL⟩;have hll:done.length+left.length=(cy7 x).length:=by rw[<- hpm.length_eq,ze]
  simp only[go_sem,kg2 hmi];refine ⟨fun hnil=>?_,fun k hk=>?_⟩
  ·have hl0:left=[]:=by simpa using hnil
   subst hl0;rw[List.append_nil] at hpm;have q1:=hpL.trans (em6 hpm hkn1);simp only[go_sem,hbt,aa2.cs,bo9];have hjl:j=(cy7 x).length:=by rw[<- hdl]; simpa using hll
   subst hjl;clear hmi hbt hpL hpm hll hdl
   refine ab3 noT (fun j fr u=>fr=[(0,.ab9 cs),(4,.ptr 3 0),(5,.int .i64 i),(19,.int .i64 p.rows.length),(20,.int .i64 i),(80,deps x.aa8),(81,.int .i64 x.aa8.length),(82,.int .i64 j)] /\
    ∃ L3' tg',IS u 3 0 1 2 allI rv2 L L2' L3' tg' (i*W+1+(cy7 x).length+j)/\(bd6 L3').Perm (au8 (ad7 (pk.take i)).over ((x.aa8.take j).map (·.name)) i)) x.aa8.length ⟨rfl,L3,tg,hIt,p3⟩ ?_
   rintro j fr u hjo ⟨rfl,L3',tg',hIu,r3⟩;have hkn3:KN (bd6 L3'):=by show ((bd6 L3').map (·.1)).Nodup; unfold bd6; rw[z1]; exact hIu.m3.keys
   by_cases hjlt:j<x.aa8.length
   ·obtain ⟨d,hd,_,hdr,hget,htk2⟩:=ad6 x.aa8 j hjlt;have d1:(j:Int)<x.aa8.length:=om
    have d2:(0:Int)<=j:=om
    have w2:=ad1 (i:=j) om;have g3u:=hIu.ltp;have f3:¬ 3=u.next:=om
    simp only[go_sem,d1,d2,hget,Dep.cs,f3,hIu.cell,zj];generalize hU:Store.put (Store.put _ u.next _) u.next _=U;have hUn:U.next=u.next+1:=by rw[<- hU]; rfl
    have hUd:U.obj u.next=zc (.cells [.str d.name,.int .u8 d.op,.int .i64 d.evr.aq6,.str d.evr.ver,.str d.evr.rel]):=by rw[<- hU]; simp only[aa5,if_true]
    have hIU:IS U 3 0 1 2 allI rv2 L L2' L3' tg' (i*W+1+(cy7 x).length+j):=hIu.mono (zd _) om fun a ha=>by
     have e:¬ a=u.next:=om
     rw[<- hU]; simp only[aa5,e,if_false]
    clear hU;have hlk:∀ m,cc3 ⟨m,U.obj⟩ 2 .aa1 false (.map 2) (.str d.name)=zc (de3 L3' d.name):=fun m=>ii8 (σ:=⟨m,U.obj⟩) hIU.m3.map d.name
    simp only[go_sem,hlk];obtain ⟨hcg,hcl⟩:=hIU.m3.cur d.name (u.next+11) om
    have hfz:cu4 (⟨u.next+11,U.obj⟩:Store) 0 (de3 L3' d.name) (.aa4 ((ch9 L3' d.name).map Md.ad9)):=hcg.frz (fun y hy=>(cb3 _ y hy).1) (fun _ _=>zk _) fun e he c hc=>by
     obtain ⟨n,_,rfl⟩:=zb.1 he
     cases hc with
     | head=>exact .int _ _
     | tail _ h=>cases h
    have hat:=(hu7.cons hfz (hu7.cons (af2 .i64 (i:Int)) .nil)).at;refine ac5 fok73 (cq7 hE hat.1 hat.2 (by simp[IV.plain]) (cg2 (ch9 L3' d.name) i om)) ?_;rintro v' s' ⟨rfl,rfl⟩;refine ⟨zd _,?_⟩
    have hin:(i:Int)∈ad3 (au8 (ad7 (pk.take i)).over ((x.aa8.take j).map (·.name)) i) d.name↔(i:Int)∈ch9 L3' d.name:=by
     rw[<- de5 hkn3 r3,ga4]
    cases hc:decide ((i:Int)∈ch9 L3' d.name) with
    | true=>
     have hc':(i:Int)∈ch9 L3' d.name:=of_decide_eq_true hc;simp only[go_sem,w2];refine ⟨hjlt,L3',tg',?_,?_⟩
     ·have:=hIU.mono (s':=⟨u.next+11,U.obj⟩) (zr _) (by show U.next<=u.next+11; omega) fun _ _=>rfl
      simpa only[zj,Nat.succ_eq_add_one] using this
     ·rw[htk2,zg,zv,List.map_nil,cu6,if_pos (hin.2 hc')]; exact r3
    | false=>
     have hc':¬ (i:Int)∈ch9 L3' d.name:=of_decide_eq_false hc;obtain ⟨t5,jb1,jb2,jb3,jb4,jpt⟩:=hIU.m3.upd d.name (i:Int) (u.next+28) (u.next+26) om om om;simp only[go_sem,hIU.cell,hUd,hlk,jb1,zj];rw[fk7 jb3 d.name (i:Int) (u.next+26)];have hn5:(t5.put 2 (aj5.map (mEs (be7 L3' d.name (i:Int) (u.next+26))))).next=u.next+28:=jb2;have jpt':=jpt (t5.put 2 (aj5.map (mEs (be7 L3' d.name (i:Int) (u.next+26))))).next (by rw[hn5]; omega);have hI5:=hIU.of3 (s':=t5.put 2 (aj5.map (mEs (be7 L3' d.name (i:Int) (u.next+26))))) (nid:=u.next+26) (by rw[hn5]; omega) om jpt'.1 jpt'.2
     have hq:(bd6 (be7 L3' d.name (i:Int) (u.next+26))).Perm (ar2 (au8 (ad7 (pk.take i)).over ((x.aa8.take j).map (·.name)) i) d.name i):=by
      rw[cy6];exact bw5 hkn3 r3
     clear jpt jpt' jb1 jb3 jb4;generalize t5.put 2 (aj5.map (mEs (be7 L3' d.name (i:Int) (u.next+26))))=T5 at *;simp only[go_sem,w2];refine ⟨hjlt,be7 L3' d.name (i:Int) (u.next+26),_,by simpa only[zj] using hI5,?_⟩;rw[htk2,zg,zv,List.map_nil,cu6,if_neg (fun e=>hc' (hin.1 e))]; exact hq
   ·have hj':j=x.aa8.length:=om
    subst hj';have d1:¬ (x.aa8.length:Int)<x.aa8.length:=om
    rw[zq] at r3;simp only[go_sem,d1,w1];refine ⟨hlt,rv2,L,L2',L3',tg',?_,?_,?_,?_⟩
    ·rw[htk];have hle2:i*W+1+(cy7 x).length+x.aa8.length<=(i+1)*W:=by rw[Nat.succ_mul]; omega
     exact hIu.mono hle2 (zd _) fun _ _=>rfl
    ·rw[hidx]; exact q1
    ·rw[hidx]; exact q2
    ·rw[hidx]; exact r3
  ·have hge:(left.map sE).getD k (.undef,.undef)=sE left[k]:=by simp[zf,hk]
   rw[hge,eq2];generalize hT:Store.put t S2.next (aj5.as3 ((left.eraseIdx k).map sE) (zc (sE left[k])))=T;have hTn:T.next=t.next:=by rw[<- hT]; rfl
   have hTm:T.obj S2.next=zc (.as3 ((left.eraseIdx k).map sE) (zc (sE left[k]))):=by rw[<- hT]; simp only[aa5,if_true]
   have hTb:T.obj s.next=zc (.cells x.cs):=by rw[<- hT]; simp only[aa5,hsm,if_false]; exact hbt
   have hIT:IS T 3 0 1 2 allI rv2 L L2' L3 tg (i*W+1+j):=hIt.gy2 (zd _) om fun a o ha hao hne=>by
    rw[<- hT];have e:¬ a=S2.next:=fun e=>by subst e; rw[hmi] at hao; cases hao; exact hne _ _ rfl
    simp only[aa5,e,if_false]; exact hao
   clear hT;generalize hkey:left[k]=key at *;obtain ⟨t3,ib1,ib2,ib3,ib4,hpt⟩:=hIT.m1.upd key (i:Int) (t.next+15) (t.next+13) om om om;have hlk:∀ m,cc3 ⟨m,T.obj⟩ 2 .aa1 false (.map 0) (.str key)=zc (de3 L key):=fun m=>ii8 (σ:=⟨m,T.obj⟩) hIT.m1.map key
   have hme:∀ m,cw3 ⟨m,T.obj⟩ (.ptr S2.next 0)=zc (.tuple [.str key,.agg []]):=fun m=>kg3 (s:=⟨m,T.obj⟩) hTm
   simp only[go_sem,hme,hIT.cell,hlk,ib1,zj];rw[fk7 ib3 key (i:Int) (t.next+13)];have hn4:(t3.put 0 (aj5.map (mEs (be7 L key (i:Int) (t.next+13))))).next=t.next+15:=ib2;have hpt':=hpt (t3.put 0 (aj5.map (mEs (be7 L key (i:Int) (t.next+13))))).next (by rw[hn4]; omega);have hI4:=hIT.of1 (s':=t3.put 0 (aj5.map (mEs (be7 L key (i:Int) (t.next+13))))) (nid:=t.next+13) (by rw[hn4]; omega) om hpt'.1 hpt'.2
   have hmi4:(t3.put 0 (aj5.map (mEs (be7 L key (i:Int) (t.next+13))))).obj S2.next=zc (.as3 ((left.eraseIdx k).map sE) (zc (sE key))):=by
    have e:¬ S2.next=0:=om
    simp only[aa5,e,if_false];exact ib4 _ _ om hTm (fun _ e=>by cases e)
   have hb4:(t3.put 0 (aj5.map (mEs (be7 L key (i:Int) (t.next+13))))).obj s.next=zc (.cells x.cs):=by
    have e:¬ s.next=0:=om
    simp only[aa5,e,if_false];exact ib4 _ _ om hTb (fun _ e=>by cases e)
   have hq:(bd6 (be7 L key (i:Int) (t.next+13))).Perm (bd8 (ad7 (pk.take i)).au1 (done++[key]) i):=by
    rw[cy6,ew9];exact bw5 (by show ((bd6 L).map (·.1)).Nodup; unfold bd6; rw[z1]; exact hIT.m1.keys) hpL
   clear hpt hpt' ib1 ib3 ib4;generalize t3.put 0 (aj5.map (mEs (be7 L key (i:Int) (t.next+13))))=T4 at *;simp only[go_sem];refine ⟨om,om,hb4,done++[key],left.eraseIdx k,zc (sE key),be7 L key (i:Int) (t.next+13),_,?_,by rw[ze,hdl]; rfl,hmi4,by simpa only[zj] using hI4,hq⟩;rw[qi];refine qb.trans (qb.append_left done ?_) hpm;rw[<- hkey];exact (dw2 left k hk).symm
 ·have hi':i=p.rows.length:=om
  subst hi';have c1:¬ (p.rows.length:Int)<p.rows.length:=om
  rw[<- hpl,zq] at hI p1 p2 p3;simp only[go_sem,c1];refine .by5 (.cons ?_ (.cons (af2 _ _) .nil))
  have hall:∀ (l:List aa2) (y:Index) (n:Nat),(idxFrom y n l).all=y.all++l:=by
   intro l
   induction l with
   | nil=>intro y n; simp[idxFrom]
   | cons a l ih=>intro y n; simp only[idxFrom,ih,em7]; simp
  exact hI.frz (by unfold ad7; rw[hall]; rfl) p1 p2 p3
end Go.Id.Tryz
namespace Go.Id.Tryz
open Go Go.Id Go.Proofs Go.Id.Md
theorem ct3 {f:Nat}{args:List IV}{v:IV}{σ:Store}{K:IV->Store->Prop}(hf:okF Tryz.prog f=true)(h:PC Tryz.prog EE f args v)(hk:K v σ):dd5 Tryz.prog EE z9 f args σ K :=
 an2 hf (em3 h) fun _ _ ⟨h1,h2⟩=>by subst h1; subst h2; exact ⟨zd _,hk⟩
theorem as2 (x:Index):Bnd 0 x.v:=.ab9 _ fun c hc=>by
 simp only[zi,zh,or_false] at hc;rcases hc with rfl|rfl|rfl|rfl
 ·exact au2 _
 ·exact ef3 _
 ·exact ef3 _
 ·exact ef3 _
theorem gy3 (x:Index)(l:List Int)(hl:l.length<2^30)(k:Nat)(cap:List IV)(w:Int->Bool)(hcap:∀ c∈cap,Bnd 0 c)(hok:okF Tryz.prog k=true)
  (hW:∀ n∈l,∃ m:Nat,n=m/\∃ h:m<x.all.length,PC Tryz.prog EE k (.agg x.all[m].cs::.int .i64 n::cap) (.bool (w n))) :
  PC Tryz.prog EE 126 [x.v,.aa4 (l.map Md.ad9),.func (.func k) [] cap] (.aa4 ((l.filter w).map Md.ad9)):=by
 have hx:x.v=.ab9 [.aa4 (x.all.map aa2.cs),.ak9 (nmV x.au1),.ak9 (nmV x.names),.ak9 (nmV x.over)]:=rfl;have hbx:=as2 x;rw[hx] at hbx ⊢;generalize IV.ak9 (nmV x.au1)=v1 at *;generalize IV.ak9 (nmV x.names)=v2 at *;generalize IV.ak9 (nmV x.over)=v3 at *;refine ae6 hE fok126 (nZ rfl) (fun a ha=>?_) ?_
 ·simp only[zi,zh,or_false] at ha;rcases ha with rfl|rfl|rfl
  ·exact hbx
  ·exact ag8 _
  ·exact .func _ _ _ (fun c hc=>by cases hc) hcap
 simp only[ic126,go_sem];refine ab3 noT (fun i fr s=>∃ gv,fr=[(0,.ab9 [.aa4 (x.all.map aa2.cs),v1,v2,v3]),(2,.func (.func k) [] cap),(7,gv),(10,.aa4 (l.map Md.ad9)),(11,.int .i64 l.length),(12,.int .i64 i)]/\Grow s gv 1 (((l.take i).filter w).map Md.ad9)) l.length ⟨.aa1,rfl,.inl ⟨rfl,rfl⟩⟩ ?_;rintro i fr s hle ⟨gv,rfl,hg⟩;by_cases hlt:i<l.length
 ·obtain ⟨n,hn,_,hdr,hget,htk⟩:=ad6 l i hlt;have c1:(i:Int)<l.length:=om
  have c2:(0:Int)<=i:=om
  have w1:=ad1 (i:=i) om;obtain ⟨m,rfl,hm,hpc⟩:=hW n hn;have c3:(m:Int)<x.all.length:=om
  have c4:(0:Int)<=m:=om
  have hgm:(x.all.map aa2.cs).getD m []=x.all[m].cs:=by simp[zf,hm]
  simp only[go_sem,c1,c2,c3,c4,hget,Md.ad9,hgm,af6,af4,ac9,zn,za];refine ct3 hok hpc ?_
  cases hw:w (m:Int) with
  | false=>
   simp only[go_sem,w1]
   exact ⟨hlt,gv,rfl,by rw[htk,qe]; simpa [hw] using hg⟩
  | true=>
   have hg1:Grow ⟨s.next+1,s.obj⟩ gv 1 (((l.take i).filter w).map Md.ad9):=Grow.mono (σ:=s) hg (zr _) fun _ _ _=>rfl
   have hlen:((l.take i).filter w).length<=i:=by
    refine zo (List.length_filter_le _ _) ?_;rw[zs]; omega
   have hap:=aj8 (nid:=s.next) (e:=[.int .i64 (m:Int)]) hg1 (cb3 _) ⟨rfl,rfl⟩ (by rw[za]; omega);simp only[go_sem,hap,w1];refine ⟨hlt,_,rfl,?_⟩;rw[htk,qe,zg];have e:List.filter w [(m:Int)]=[(m:Int)]:=by simp[hw]
   rw[e];refine .inr ⟨s.next,by simp,?_,?_⟩
   ·show (if s.next=s.next then _ else _)=_;rw[if_pos rfl]; rfl
   ·show s.next<(ae7 gv _).next;rw[ac2]; exact Nat.lt_succ_self _
 ·have hi':i=l.length:=om
  subst hi';have c1:¬ (l.length:Int)<l.length:=om
  rw[zq] at hg;simp only[go_sem,c1];refine hg.frz (fun y hy=>(cb3 _ y hy).1) (fun _ _=>zk _) fun e he c hc=>?_
  obtain ⟨n,_,rfl⟩:=zb.1 he
  cases hc with
  | head=>exact .int _ _
  | tail _ h=>cases h
end Go.Id.Tryz
namespace Go.Id.Tryz
open Go Go.Id Go.Proofs Go.Id.Md
theorem eq4 (s:Str):PC Tryz.prog EE 249 [.str s] (.func (.func 266) [] [.ab9 [.str s]]):=by
 refine ae6 hE fok249 (nZ rfl) (ae5 (.str _)) ?_;simp only[ic249,go_sem];have h1:∀ c∈[IV.str s],Bnd 0 c:=ae5 (.str _);have h2:∀ c∈[IV.ab9 [.str s]],Bnd 0 c:=ae5 (.ab9 _ h1);exact .keep _ (.func _ _ _ (fun c hc=>by cases hc) h2)
theorem cg3 (l:List Part):∀ e∈l.map Part.cs,e.length=2/\e.all IV.leaf=true:=fun e he=>by
 obtain ⟨x,_,rfl⟩:=zb.1 he; exact ⟨rfl,rfl⟩
theorem gd3:∀ (n:Nat) (l:Str),l.length<=n->(av4 n l).length<=l.length:=by
 intro n
 induction n with
 | zero=>intro l h; simp[av4]
 | succ n ih=>
  intro l h
  cases l with
  | nil=>simp[av4]
  | cons b l=>
   simp only[zl] at h;simp only[av4];split
   ·exact zo (ih l om) (by simp)
   ·split
    ·simp only[zl]; have:=ih l om; omega
    ·simp only[zl]
     have hd:((b::l).dropWhile fun c=>af5 c==af5 b).length<=l.length:=by
      rw[zx,if_pos (by simp)]; exact cz7 l
     have:=ih _ (zo hd om);omega
theorem ct5 (s:Str):(af9 s).length<=s.length:=gd3 _ _ (zd _)
theorem dw3 (s:Str)(hs:s.length<2^30)(σ:Store):C Tryz.prog EE 214 [.str s] σ fun v t=>(∀ i,i<σ.next->t.obj i=σ.obj i)/\σ.next<=t.next/\Grow t v 2 ((af9 s).map Part.cs)/\∀ id n,v=.slice id 0 n 2->σ.next<=id:=by
 refine C_f fok214 (nZ rfl) ?_;simp only[ic214,go_sem];refine aa3 fok249 (eq4 s) ?_;simp only[go_sem];have hvl:=ct5 s;refine ea6 (ii2 s om) (fun rest t=>∃ n v,n<=(af9 s).length/\rest=((af9 s).drop n).map evP/\(∀ i,i<σ.next->t.obj i=σ.obj i)/\t.obj σ.next=zc (.cells [v])/\σ.next<t.next/\Grow t v 2 (((af9 s).take n).map Part.cs)/\∀ id k,v=.slice id 0 k 2->σ.next+1<id) (fun _ _ _=>trivial) ?_ ?_ ?_ ?_ ?_
 ·rintro rest t t' ⟨n,v,h0,h1,h2,h3,h4,h5,h6⟩ hn ho;exact ⟨n,v,h0,h1,fun i hi=>by rw[ho i om]; exact h2 i hi,by rw[ho _ h4]; exact h3,om,h5.mono hn fun id _ hid=>ho id hid,h6⟩
 ·intro a ha;obtain ⟨p,_,rfl⟩:=zb.1 ha;rfl
 ·intro o;have e0:¬ σ.next=σ.next+1:=om
  refine ⟨0,.aa1,z5 _,rfl,fun i hi=>?_,?_,by show σ.next<σ.next+1+1; omega,.inl ⟨rfl,by simp⟩,fun id k h=>by cases h⟩
  ·have e1:¬ i=σ.next:=om
   have e2:¬ i=σ.next+1:=om
   simp only[aa5,ab2,e1,e2,if_false]
  ·simp only[aa5,ab2,e0,if_false,if_true]
 ·rintro L pre a rest t hev ⟨n,v,h0,h1,h2,h3,h4,h5,h6⟩ hL hlt
  have hn:n<(af9 s).length:=by
   rcases Nat.lt_or_ge n (af9 s).length with h|h
   ·exact h
   ·rw[z2 h] at h1; cases h1
  rw[zp hn,zv] at h1;obtain ⟨ha,hrest⟩:=List.cons.inj h1;subst ha;simp only[evP,Part.cs,ab2] at hL hlt ⊢;have e1:¬ σ.next+1=t.next:=om
  have e2:¬ σ.next=t.next:=om
  have e3:¬ σ.next=σ.next+1:=om
  have e4:¬ t.next=σ.next+1:=om
  have e5:¬ t.next=σ.next:=om
  simp only[go_sem,hL,e1,e2,e3,e4,h3];generalize hU:(((Store.put ⟨t.next+1,t.obj⟩ t.next (aj5.cells [IV.int .u8 0,IV.str []])).put t.next (aj5.cells [IV.int .u8 ↑(af9 s)[n].kind,IV.str (af9 s)[n].s])).put (σ.next+1) (L .busy z9))=U
  have hUo:∀ i,i<t.next->i≠σ.next+1->U.obj i=t.obj i:=fun i hi hne=>by
   have:¬ i=t.next:=om
   rw[<- hU]; simp only[aa5,hne,this,if_false]
  have hUL:U.obj (σ.next+1)=zc (L .busy z9):=by rw[<- hU]; simp only[aa5,if_true]
  have hg:Grow ⟨t.next+1+1,U.obj⟩ v 2 (((af9 s).take n).map Part.cs):=by
   refine h5.mono (by show t.next<=t.next+1+1; omega) fun id hv hid=>?_
   have:=h6 _ _ hv;exact hUo id hid om
  have hl0:(((af9 s).take n).map Part.cs).length=n:=by rw[za,zs]; omega
  have hap:=aj8 (nid:=t.next+1) (e:=[IV.int .u8 ↑(af9 s)[n].kind,IV.str (af9 s)[n].s]) hg (cg3 _) ⟨rfl,rfl⟩ (by rw[hl0]; omega);have k1:=af8 hg σ.next (.cells [v]) (by show U.obj _=_; rw[hUo _ h4 e3]; exact h3) (fun _ h=>by cases h)
  have k2:(ae7 v ⟨t.next+1+1,U.obj⟩).obj (σ.next+1)=zc (L .busy z9):=by
   cases hv:v<;>try exact hUL
   rename_i id o n' e;show (if σ.next+1=id then z9 else U.obj _)=_;rcases h5 with ⟨h,_⟩|⟨id',h,_,_⟩
   ·rw[h] at hv; cases hv
   ·rw[hv] at h; cases h;have:=h6 _ _ hv;rw[if_neg om]; exact hUL
  have k3:∀ i,i<σ.next->(ae7 v ⟨t.next+1+1,U.obj⟩).obj i=σ.obj i:=fun i hi=>by
   have e7:U.obj i=σ.obj i:=by rw[hUo i om om]; exact h2 i hi
   cases hv:v<;>try exact e7
   rename_i id o n' e;show (if i=id then z9 else U.obj _)=_;rcases h5 with ⟨h,_⟩|⟨id',h,_,_⟩
   ·rw[h] at hv; cases hv
   ·rw[hv] at h; cases h;have:=h6 _ _ hv;rw[if_neg om]; exact e7
  have kn:=ac2 (σ:=⟨t.next+1+1,U.obj⟩) v;rw[hl0] at hap;have e6:¬ σ.next=t.next+1:=om
  have e7:¬ σ.next+1=t.next+1:=om
  have e8:¬ σ.next+1=σ.next:=om
  simp only[go_sem,hap,e6,k1,e7,e8,k2];refine ev1 (by rw[ab2,ab2,ab2,kn]; show t.next<=t.next+1+1; omega) (by simp only[aa5,if_true]) ?_;refine ⟨n+1,.slice (t.next+1) 0 (n+1) 2,hn,hrest,fun i hi=>?_,?_,?_,?_,fun id k h=>?_⟩
  ·have g1:¬ i=σ.next+1:=om
   have g2:¬ i=σ.next:=om
   have g3:¬ i=t.next+1:=om
   simp only[aa5,g1,g2,g3,if_false]; exact k3 i hi
  ·simp only[aa5,e3,if_false,if_true]
  ·simp only[ab2,kn]; omega
  ·have htk:(af9 s).take (n+1)=(af9 s).take n++[(af9 s)[n]]:=by rw[List.take_succ_eq_append_getElem hn]
   rw[htk,zg];refine .inr ⟨t.next+1,by simp; omega,?_,by simp only[ab2,kn]; omega⟩;have g1:¬ t.next+1=σ.next+1:=om
   have g2:¬ t.next+1=σ.next:=om
   simp only[aa5,g1,g2,if_false,if_true]; rfl
  ·cases h; omega
 ·rintro t o ⟨n,v,h0,h1,h2,h3,h4,h5,h6⟩ hlt ho
  have hn:n=(af9 s).length:=by
   rcases Nat.lt_or_ge n (af9 s).length with h|h
   ·rw[zp h] at h1; cases h1
   ·omega
  subst hn;have e3:¬ σ.next=σ.next+1:=om
  simp only[ab2] at hlt ho ⊢;simp only[go_sem,e3,h3];rw[zq] at h5;refine ⟨fun i hi=>?_,om,h5.mono (zd _) fun id hv hid=>?_,fun id k h=>?_⟩
  ·have g1:¬ i=σ.next+1:=om
   rw[if_neg g1]; exact h2 i hi
  ·have:=h6 _ _ hv;have g1:¬ id=σ.next+1:=om
   show (if id=σ.next+1 then z9 else t.obj id)=_;rw[if_neg g1]
  ·have:=h6 _ _ h; omega
theorem is7 {p:UInt8->Bool}(l:Str):(l.takeWhile p).length<=l.length:=(List.takeWhile_sublist _).length_le
theorem ij3:∀ (n:Nat) (l:Str),l.length<=n->∀ p∈av4 n l,p.s.length<=l.length:=by
 intro n
 induction n with
 | zero=>intro l h p hp; simp[av4] at hp
 | succ n ih=>
  intro l h p hp
  cases l with
  | nil=>simp[av4] at hp
  | cons b l=>
   simp only[zl] at h;simp only[av4] at hp;split at hp
   ·exact zo (ih l om p hp) (by simp)
   ·split at hp
    ·rcases zi.1 hp with rfl|hp
     ·simp
     ·exact zo (ih l om p hp) (by simp)
    ·have hd:((b::l).dropWhile fun c=>af5 c==af5 b).length<=l.length:=by
      rw[zx,if_pos (by simp)]; exact cz7 l
     rcases zi.1 hp with rfl|hp
     ·simp only;split
      ·exact zo (cz7 _) (is7 _)
      ·exact is7 _
     ·exact zo (ih _ (zo hd om) p hp) (zo hd (by simp))
theorem ij4 (s:Str):∀ p∈af9 s,p.s.length<=s.length:=ij3 _ _ (zd _)
def gq6:Part:=⟨2,[]⟩
abbrev vL (s:Str):List Part:=af9 s++[gq6]
theorem kj3 (s:Str):∀ p∈vL s,p.s.length<=s.length:=fun p hp=>by
 rcases List.mem_append.1 hp with h|h
 ·exact ij4 s p h
 ·simp[gq6] at h; subst h; exact z5 _
theorem ef7 {xs ys:List Part}{i:Nat}(h1:i<xs.length)(h2:i<ys.length):ag7 (xs.drop i) (ys.drop i)=if ag5 xs[i] ys[i]≠0 then ag5 xs[i] ys[i] else ag7 (xs.drop (i+1)) (ys.drop (i+1)):=by
 rw[zp h1,zp h2,ag7]
theorem eq5 {xs ys:List Part}{i:Nat}(h:xs.length<=i\/ys.length<=i):ag7 (xs.drop i) (ys.drop i)=0:=by
 rcases h with h|h
 ·rw[z2 h,ag7]; intros; contradiction
 ·rw[z2 h]; cases xs.drop i<;>rw[ag7]<;>intros<;>contradiction
theorem je6 (l:List Part)(i:Nat)(h:i<l.length):(l.map Part.cs).getD i []=Part.cs l[i]:=by simp[zf,h]
theorem gz1 {σ:Store}{id i:Nat}{l:List Part}(ho:σ.obj id=zc (.row (l.map Part.cs).flatten))(h:i<l.length):eb5 (zc 2) (i*2) (σ.obj id)=zc (.agg (Part.cs l[i])):=by
 have hall:∀ e∈l.map Part.cs,e.length=2:=fun e he=>(cg3 l e he).1
 have hlen:=at6 hall;rw[za] at hlen;have hp:=aw3 hall i (by rw[za]; exact h);rw[ho];simp only[eb5];have h1:i*2+2<=l.length*2:=om
 rw[if_pos (by rw[zt,hlen]; omega),hp,je6 l i h]
theorem cg5 (a b:Str)(ha:a.length<2^30)(hb:b.length<2^30):PC Tryz.prog EE 178 [.str a,.str b] (.int .i64 (ar8 a b)):=by
 refine ae6 hE fok178 (nZ rfl) (ao8 (.str _) (.str _)) ?_;have la:=ct5 a;have lb:=ct5 b;simp only[ic178,go_sem];refine ac5 fok214 (dw3 a ha _) ?_;rintro v1 s1 ⟨-,n1,g1,-⟩;refine ⟨n1,?_⟩;have n1:2<=s1.next:=n1;have ap1:=aj8 (nid:=0) (e:=[IV.int .u8 2,IV.str []]) g1 (cg3 _) ⟨rfl,rfl⟩ (by rw[za]; omega);simp only[go_sem,ap1];have hl1:∀ e∈(vL a).map Part.cs,e.length=2:=fun e he=>(cg3 _ e he).1
 have r1:((af9 a).map Part.cs++[[IV.int .u8 2,IV.str []]]).flatten=((vL a).map Part.cs).flatten:=by rw[zg]; rfl
 have r2:((af9 b).map Part.cs++[[IV.int .u8 2,IV.str []]]).flatten=((vL b).map Part.cs).flatten:=by rw[zg]; rfl
 rw[r1];refine ac5 fok214 (dw3 b hb _) ?_;rintro v2 s2 ⟨o2,n2,g2,h2⟩;refine ⟨n2,?_⟩;have n2:2<=s2.next:=by rw[ab2,ac2] at n2; omega
 have ap2:=aj8 (nid:=1) (e:=[IV.int .u8 2,IV.str []]) g2 (cg3 _) ⟨rfl,rfl⟩ (by rw[za]; omega)
 have q0:s2.obj 0=zc (.row ((vL a).map Part.cs).flatten):=by
  rw[o2 0 (by rw[ab2,ac2]; omega)];simp only[aa5,if_true]
 have q1:(ae7 v2 s2).obj 0=zc (.row ((vL a).map Part.cs).flatten):=by
  rcases g2 with ⟨rfl,_⟩|⟨id,rfl,_,_⟩
  ·exact q0
  ·have:=h2 _ _ rfl;rw[ab2,ac2] at this;show (if 0=id then z9 else s2.obj 0)=_;rw[if_neg om]; exact q0
 rw[r2] at ap2;simp only[go_sem,ap2];generalize hS:(ae7 v2 s2).put 1 (.row ((vL b).map Part.cs).flatten)=S;have k0:S.obj 0=zc (.row ((vL a).map Part.cs).flatten):=by rw[<- hS]; exact q1
 have k1:S.obj 1=zc (.row ((vL b).map Part.cs).flatten):=by rw[<- hS]; simp only[aa5,if_true]
 clear hS ap1 ap2
 have hmin:(if ((af9 b).length+1:Nat)<(((af9 a).length+1:Nat):Int) then (((af9 b).length+1:Nat):Int) else (((af9 a).length+1:Nat):Int))=((min (vL a).length (vL b).length:Nat):Int):=by
  simp only[ze,zl,zw];split<;>omega
 rw[hmin];have hA:(af9 a).length+1=(vL a).length:=by simp
 have hB:(af9 b).length+1=(vL b).length:=by simp
 rw[hA,hB];have hNa:min (vL a).length (vL b).length<=(vL a).length:=Nat.min_le_left _ _;have hNb:min (vL a).length (vL b).length<=(vL b).length:=Nat.min_le_right _ _;have hN:(vL a).length<=min (vL a).length (vL b).length\/(vL b).length<=min (vL a).length (vL b).length:=om
 have hsm:min (vL a).length (vL b).length<2^40:=by rw[<- hA] at hNa; omega
 generalize min (vL a).length (vL b).length=N at *;refine ab3 noT (fun i fr s=>fr=[(5,.slice 0 0 (vL a).length 2),(6,.slice 1 0 (vL b).length 2),(23,.int .i64 N),(24,.int .i64 i)]/\s.obj=S.obj/\ar8 a b=ag7 ((vL a).drop i) ((vL b).drop i)) N ⟨rfl,rfl,rfl⟩ ?_;rintro i fr s hle ⟨rfl,hs,hI⟩;by_cases hlt:i<N
 ·have c1:(i:Int)<N:=om
  have c2:(0:Int)<=i:=om
  have ia:i<(vL a).length:=om
  have ib:i<(vL b).length:=om
  have c3:(i:Int)<(vL a).length:=om
  have c4:(i:Int)<(vL b).length:=om
  have w1:=ad1 (i:=i) om;have l0:=gz1 k0 ia;have l1:=gz1 k1 ib;rw[ef7 ia ib] at hI;have hp:=gd2 (vL a)[i] (vL b)[i] (by have:=kj3 a _ (zu ia); omega) (by have:=kj3 b _ (zu ib); omega);generalize (vL a)[i]=x at *;generalize (vL b)[i]=y at *;simp only[go_sem,c1,c2,c3,c4,hs,l0,l1];refine aa3 fok215 hp ?_;by_cases hz:ag5 x y=0
  ·simp only[go_sem,hz,w1];rw[hz,if_neg (by simp)] at hI;exact ⟨hlt,hI⟩
  ·rw[if_pos hz] at hI;simp only[go_sem,hz];rw[hI]; exact af2 _ _
 ·have hi':i=N:=om
  subst hi';have c1:¬ (i:Int)<i:=om
  rw[eq5 hN] at hI;simp only[go_sem,c1];rw[hI]; exact af2 _ _
end Go.Id.Tryz
namespace Go.Id.Tryz
open Go Go.Id Go.Proofs Go.Id.Md
theorem gz2 (a b:EVR):PC Tryz.prog EE 175 [.ab9 a.cs,.ab9 b.cs] (.int .i64 (ay9 a.aq6 b.aq6)):=by
 refine ba5 fok175 (nZ rfl) fun σ=>?_
 simp only[ic175,go_sem,EVR.cs];refine aa3 fok176 (gy8 _ _) ?_;simp only[go_sem,and_self]
theorem gz3 (a b:EVR)(h1:a.ver.length<2^30)(h2:b.ver.length<2^30):PC Tryz.prog EE 177 [.ab9 a.cs,.ab9 b.cs] (.int .i64 (ar8 a.ver b.ver)):=by
 refine ba5 fok177 (nZ rfl) fun σ=>?_
 simp only[ic177,go_sem,EVR.cs];refine aa3 fok178 (cg5 _ _ h1 h2) ?_;simp only[go_sem,and_self]
theorem gz4 (a b:EVR)(h1:a.rel.length<2^30)(h2:b.rel.length<2^30):PC Tryz.prog EE 179 [.ab9 a.cs,.ab9 b.cs] (.int .i64 (if a.rel=[]\/b.rel=[] then 0 else ar8 a.rel b.rel)):=by
 refine ba5 fok179 (nZ rfl) fun σ=>?_
 by_cases e1:a.rel=[]
 ·simp only[ic179,go_sem,EVR.cs,e1,true_or,and_self]
 ·by_cases e2:b.rel=[]
  ·simp only[ic179,go_sem,EVR.cs,e1,e2,or_true,and_self]
  ·simp only[ic179,go_sem,EVR.cs,e1,e2,or_self];refine aa3 fok178 (cg5 _ _ h1 h2) ?_;simp only[go_sem,and_self]
def fnC (f:Nat×List IV):List IV:=[.func (.func f.1) [] f.2]
theorem fb8 (fs:List (Nat×List IV))(vals:List Int)(hl:fs.length=vals.length)(hn:fs.length<2^40)(hb:∀ f∈fs,∀ c∈f.2,Bnd 0 c)
  (h:∀ i (h1:i<fs.length) (h2:i<vals.length),okF Tryz.prog fs[i].1=true/\PC Tryz.prog EE fs[i].1 fs[i].2 (.int .i64 vals[i])):PC Tryz.prog EE 174 [.aa4 (fs.map fnC)] (.int .i64 (orM vals)):=by
 refine ae6 hE fok174 (nZ rfl) (ae5 (.aa4 _ fun e he c hc=>?_)) ?_
 ·obtain ⟨f,hf,rfl⟩:=zb.1 he
  cases hc with
  | head=>exact .func _ _ _ (fun c hc=>by cases hc) (hb f hf)
  | tail _ h=>cases h
 simp only[ic174,go_sem];refine ab3 noT (fun i fr s=>fr=[(6,.aa4 (fs.map fnC)),(7,.int .i64 fs.length),(8,.int .i64 i)]/\orM vals=orM (vals.drop i)) fs.length ⟨rfl,rfl⟩ ?_;rintro i fr s hle ⟨rfl,hI⟩;by_cases hlt:i<fs.length
 ·obtain ⟨f,hf,hget0,hdr,hget,htk⟩:=ad6 fs i hlt;have hlt2:i<vals.length:=om
  have c1:(i:Int)<fs.length:=om
  have c2:(0:Int)<=i:=om
  have w1:=ad1 (i:=i) om;obtain ⟨k1,k2⟩:=h i hlt hlt2
  have hfi:fs[i]=f:=by
   have:=zz hlt; rw[this] at hget0; exact zc.inj hget0
  rw[hfi] at k1 k2;rw[zp hlt2,orM] at hI;generalize vals[i]=x at *;simp only[go_sem,c1,c2,hget,fnC];refine ct3 k1 k2 ?_;by_cases hx:x=0
  ·subst hx;simp only[go_sem,w1];exact ⟨hlt,by simpa using hI⟩
  ·rw[if_neg hx] at hI;simp only[go_sem,hx];rw[hI]; exact af2 _ _
 ·have hi':i=fs.length:=om
  subst hi';have c1:¬ (fs.length:Int)<fs.length:=om
  rw[hl,zm,orM] at hI;simp only[go_sem,c1];rw[hI]; exact af2 _ _
theorem fk9 (a:EVR):Bnd 0 (.ab9 a.cs):=.ab9 _ fun c hc=>by
 simp only[EVR.cs,zi,zh,or_false] at hc;rcases hc with rfl|rfl|rfl
 ·exact .int _ _
 ·exact .str _
 ·exact .str _
theorem ef8 (a:EVR):Bnd 0 (.agg a.cs):=.agg _ fun c hc=>by
 simp only[EVR.cs,zi,zh,or_false] at hc;rcases hc with rfl|rfl|rfl
 ·exact .int _ _
 ·exact .str _
 ·exact .str _
def EVR.small (e:EVR):Prop:=e.ver.length<2^30/\e.rel.length<2^30
theorem bn2 (a b:EVR)(ha:EVR.small a)(hb:EVR.small b):PC Tryz.prog EE 133 [.agg a.cs,.agg b.cs] (.int .i64 (aw5 a b)):=by
 refine ae6 hE fok133 (nZ rfl) (ao8 (ef8 a) (ef8 b)) ?_
 have hv:aw5 a b=orM [ay9 a.aq6 b.aq6,ar8 a.ver b.ver,if a.rel=[]\/b.rel=[] then 0 else ar8 a.rel b.rel]:=by
  rw[jz5]; unfold aw5;split
  ·rfl
  ·split
   ·rfl
   ·rfl
 have hf:=fb8 [(175,[.ab9 a.cs,.ab9 b.cs]),(177,[.ab9 a.cs,.ab9 b.cs]),(179,[.ab9 a.cs,.ab9 b.cs])] [ay9 a.aq6 b.aq6,ar8 a.ver b.ver,if a.rel=[]\/b.rel=[] then 0 else ar8 a.rel b.rel] rfl (by simp)
  (fun f hf c hc=>by
   simp only[zi,zh,or_false] at hf;rcases hf with rfl|rfl|rfl<;>exact ao8 (fk9 a) (fk9 b) c hc)
  (fun i h1 h2=>by
   match i,h1 with
   | 0,_=>exact ⟨fok175.1,gz2 a b⟩
   | 1,_=>exact ⟨fok177.1,gz3 a b ha.1 hb.1⟩
   | 2,_=>exact ⟨fok179.1,gz4 a b ha.2 hb.2⟩
   | i+3,h=>simp at h; omega)
 rw[<- hv] at hf;have ea:(IV.agg a.cs).cs.all IV.leaf=true:=rfl;have eb:(IV.agg b.cs).cs.all IV.leaf=true:=rfl;simp only[EVR.cs] at hf ⊢;simp only[ic133,go_sem];refine aa3 fok174 hf ?_;simp only[go_sem];exact af2 _ _
end Go.Id.Tryz
namespace Go.Id.Tryz
open Go Go.Id Go.Proofs Go.Id.Md
def dh6 (a b:Int):Int:=IntKind.u8.wrap ((BitVec.ofInt 8 a &&& BitVec.ofInt 8 b).toNat:Int)
theorem bo5 (a b:Int):ba9 .and (.int .u8 a) (.int .u8 b)=zc (.int .u8 (dh6 a b)):=rfl
theorem kg4 {n:Nat}(h:n<256):IntKind.u8.wrap (n:Int)=n:=by
 simp[IntKind.wrap,IntKind.bits,IntKind.signed]; omega
theorem bg3 (a b:Nat)(ha:a<256)(hb:b<256):dh6 a b=((a &&& b:Nat):Int):=by
 unfold dh6;rw[BitVec.toNat_and]
 have e:∀ n:Nat,n<256->(BitVec.ofInt 8 (n:Int)).toNat=n:=fun n hn=>by
  rw[BitVec.toNat_ofInt]; omega
 rw[e a ha,e b hb];exact kg4 (qg Nat.and_le_left ha)
theorem and7:∀ a,a<256->((a &&& 7=0)↔a%8=0):=by decide +kernel
theorem gz5:∀ x,x<256->((x &&& 7=0)↔(x.testBit 0=false/\x.testBit 1=false/\x.testBit 2=false)):=by decide +kernel
theorem and1:∀ a,a<256->((a &&& 1=0)↔a.testBit 0=false):=by decide +kernel
theorem jz6:∀ a,a<256->((a &&& 4=0)↔a.testBit 2=false):=by decide +kernel
theorem gz6 (a b:Int):ay9 a b=-1\/ay9 a b=0\/ay9 a b=1:=by
 unfold ay9; split
 ·exact .inl rfl
 ·split
  ·exact .inr (.inl rfl)
  ·exact .inr (.inr rfl)
theorem ju6 (a b:Str):de2 a b=-1\/de2 a b=0\/de2 a b=1:=by
 unfold de2; split
 ·exact .inl rfl
 ·split
  ·exact .inr (.inl rfl)
  ·exact .inr (.inr rfl)
theorem gz7 (a b:Part):ag5 a b=-1\/ag5 a b=0\/ag5 a b=1:=by
 have h:∀ k n s:Int,(k=-1\/k=0\/k=1)->(n=-1\/n=0\/n=1)->(s=-1\/s=0\/s=1)->((if k≠0 then k else if n≠0 then n else s)=-1\/(if k≠0 then k else if n≠0 then n else s)=0\/(if k≠0 then k else if n≠0 then n else s)=1):=by
  intro k n s h1 h2 h3;rcases h1 with rfl|rfl|rfl<;>rcases h2 with rfl|rfl|rfl<;>simp<;>exact h3
 refine h (ay9 a.kind b.kind) (if a.kind=5/\b.kind=5 then ay9 a.s.length b.s.length else 0) (de2 a.s b.s) (gz6 _ _) ?_ (ju6 _ _);split
 ·exact gz6 _ _
 ·exact .inr (.inl rfl)
theorem gd4:∀ (l m:List Part),ag7 l m=-1\/ag7 l m=0\/ag7 l m=1:=by
 intro l
 induction l with
 | nil=>intro m; exact .inr (.inl (by rw[ag7]; intros; contradiction))
 | cons a l ih=>
  intro m
  cases m with
  | nil=>exact .inr (.inl (by rw[ag7]; intros; contradiction))
  | cons b m=>
   rw[ag7];split
   ·exact gz7 a b
   ·exact ih m
theorem fl1 (a b:Str):ar8 a b=-1\/ar8 a b=0\/ar8 a b=1:=gd4 _ _
theorem ij5 (a b:EVR):aw5 a b=-1\/aw5 a b=0\/aw5 a b=1:=by
 unfold aw5;split
 ·exact gz6 _ _
 ·split
  ·exact fl1 _ _
  ·split
   ·exact .inr (.inl rfl)
   ·exact fl1 _ _
def Dep.small (d:Dep):Prop:=0<=d.op/\d.op<256/\EVR.small d.evr
theorem ax3 (d:Dep):Bnd 0 (.agg d.cs):=.agg _ fun c hc=>by
 simp only[Dep.cs,zi,zh,or_false] at hc;rcases hc with rfl|rfl|rfl|rfl|rfl
 ·exact .str _
 ·exact .int _ _
 ·exact .int _ _
 ·exact .str _
 ·exact .str _
theorem fb9 (a b:Dep)(ha:Dep.small a)(hb:Dep.small b):PC Tryz.prog EE 210 [.agg a.cs,.agg b.cs] (.bool (meet a b)):=by
 refine ae6 hE fok210 (nZ rfl) (ao8 (ax3 a) (ax3 b)) ?_;obtain ⟨a1,a2,a3⟩:=ha;obtain ⟨b1,b2,b3⟩:=hb;have hc:=bn2 a.evr b.evr a3 b3;have h3:=ij5 a.evr b.evr;unfold meet;generalize aw5 a.evr b.evr=n at hc h3;simp only[EVR.cs] at hc;obtain ⟨x,hx⟩:∃ x:Nat,a.op=x:=⟨a.op.toNat,om⟩;obtain ⟨y,hy⟩:∃ y:Nat,b.op=y:=⟨b.op.toNat,om⟩;have hx2:x<256:=om
 have hy2:y<256:=om
 have ex7:dh6 x 7=((x &&& 7:Nat):Int):=bg3 x 7 hx2 om;have ey7:dh6 y 7=((y &&& 7:Nat):Int):=bg3 y 7 hy2 om;rw[hx,hy,zn,zn];by_cases hx0:x%8=0
 ·have q:=(and7 x hx2).2 hx0;rw[q] at ex7;have q':dh6 x 7=0:=ex7;simp only[ic210,go_sem,Dep.cs,hx,hy,bo5,q',hx0,true_or];exact ab4 _
 ·have q:¬ (x &&& 7=0):=fun e=>hx0 ((and7 x hx2).1 e)
  have q':¬ dh6 x 7=0:=by rw[ex7]; omega
  by_cases hy0:y%8=0
  ·have r:=(and7 y hy2).2 hy0;rw[r] at ey7;have r':dh6 y 7=0:=ey7;simp only[ic210,go_sem,Dep.cs,hx,hy,bo5,q',r',hy0,or_true];exact ab4 _
  ·have r:¬ (y &&& 7=0):=fun e=>hy0 ((and7 y hy2).1 e)
   have r':¬ dh6 y 7=0:=by rw[ey7]; omega
   simp only[ic210,go_sem,Dep.cs,hx,hy,bo5,q',r',hx0,hy0,or_self];refine aa3 fok133 hc ?_;have exy:dh6 x y=((x &&& y:Nat):Int):=bg3 x y hx2 hy2;have hxy:x &&& y<256:=qg Nat.and_le_left hx2;have exy7:dh6 ((x &&& y:Nat):Int) 7=((x &&& y &&& 7:Nat):Int):=bg3 _ 7 hxy om;have s1:=gy9 1 (.inr (.inr rfl));have s2:=gy9 (-1) (.inl rfl);have n1:¬ ((1:Int)<0):=by decide
   have n2:¬ ((1:Int)=0):=by decide
   have n3:((-1:Int)<0):=by decide
   rw[if_neg n1,if_neg n2] at s1;rw[if_pos n3] at s2;have x1:dh6 x 1=((x &&& 1:Nat):Int):=bg3 x 1 hx2 om;have x4:dh6 x 4=((x &&& 4:Nat):Int):=bg3 x 4 hx2 om;have y1:dh6 y 1=((y &&& 1:Nat):Int):=bg3 y 1 hy2 om;have y4:dh6 y 4=((y &&& 4:Nat):Int):=bg3 y 4 hy2 om;have w1:IntKind.i64.wrap (0 - -1)=1:=by decide
   have w2:IntKind.i64.wrap (0-1)=-1:=by decide
   have bt:∀ (k i:Nat),bit (k:Int) i=k.testBit i:=fun k i=>by unfold bit; rw[zn]
   have z0:∀ k:Nat,((k:Int)=0)↔k=0:=fun k=>by omega
   rcases h3 with rfl|rfl|rfl
   ·have g1:side (- -1)=2:=by decide
    have g2:side (-1)=0:=by decide
    have m0:¬ ((-1:Int)=0):=by decide
    simp only[go_sem,m0,w1,g1,g2,bt];refine aa7 s1 ?_
    cases hb:x.testBit 2 with
    | true=>
     have e:¬ dh6 x 4=0:=by rw[x4,z0,jz6 x hx2,hb]; simp
     simp only[go_sem,bo5,e]
     exact ab4 _
    | false=>
     have e:dh6 x 4=0:=by rw[x4,z0,jz6 x hx2,hb]
     simp only[go_sem,bo5,e];refine aa7 s2 ?_
     cases hc:y.testBit 0 with
     | true=>
      have e2:¬ dh6 y 1=0:=by rw[y1,z0,and1 y hy2,hc]; simp
      simp only[go_sem,bo5,e2]
      exact ab4 _
     | false=>
      have e2:dh6 y 1=0:=by rw[y1,z0,and1 y hy2,hc]
      simp only[go_sem,bo5,e2];exact ab4 _
   ·simp only[go_sem,bo5,exy,exy7,bt]
    have e:(!decide (((x &&& y &&& 7:Nat):Int)=0))=(x.testBit 0&&y.testBit 0||x.testBit 1&&y.testBit 1||x.testBit 2&&y.testBit 2):=by
     by_cases hz:x &&& y &&& 7=0
     ·obtain ⟨t0,t1,t2⟩:=(gz5 _ hxy).1 hz;rw[z3] at t0 t1 t2;rw[hz,t0,t1,t2]; rfl
     ·have hz':¬ ((x &&& y &&& 7:Nat):Int)=0:=fun h=>hz om
      have ht:¬ ((x &&& y).testBit 0=false/\(x &&& y).testBit 1=false/\(x &&& y).testBit 2=false):=fun h=>hz ((gz5 _ hxy).2 h)
      rw[z3,z3,z3] at ht;rw[decide_eq_false hz']
      revert ht
      generalize (x.testBit 0&&y.testBit 0)=b0;generalize (x.testBit 1&&y.testBit 1)=b1;generalize (x.testBit 2&&y.testBit 2)=b2;cases b0<;>cases b1<;>cases b2<;>simp
    rw[e];exact ab4 _
   ·have g1:side (-1)=0:=by decide
    have g2:side 1=2:=by decide
    simp only[go_sem,n2,w2,g1,g2,bt];refine aa7 s2 ?_
    cases hb:x.testBit 0 with
    | true=>
     have e:¬ dh6 x 1=0:=by rw[x1,z0,and1 x hx2,hb]; simp
     simp only[go_sem,bo5,e]
     exact ab4 _
    | false=>
     have e:dh6 x 1=0:=by rw[x1,z0,and1 x hx2,hb]
     simp only[go_sem,bo5,e];refine aa7 s1 ?_
     cases hc:y.testBit 2 with
     | true=>
      have e2:¬ dh6 y 4=0:=by rw[y4,z0,jz6 y hy2,hc]; simp
      simp only[go_sem,bo5,e2]
      exact ab4 _
     | false=>
      have e2:dh6 y 4=0:=by rw[y4,z0,jz6 y hy2,hc]
      simp only[go_sem,bo5,e2];exact ab4 _
theorem bc3 (d:Dep):Bnd 0 (.ab9 d.cs):=.ab9 _ fun c hc=>by
 simp only[Dep.cs,zi,zh,or_false] at hc;rcases hc with rfl|rfl|rfl|rfl|rfl
 ·exact .str _
 ·exact .int _ _
 ·exact .int _ _
 ·exact .str _
 ·exact .str _
theorem fl2 (a d:Dep)(ha:Dep.small a)(hd:Dep.small d):PC Tryz.prog EE 171 [.agg a.cs,.agg d.cs] (.bool (meets a d)):=by
 refine ae6 hE fok171 (nZ rfl) (ao8 (ax3 a) (ax3 d)) ?_;have hm:=fb9 a d ha hd;unfold meets;simp only[Dep.cs] at hm;by_cases h:a.name=d.name
 ·simp only[ic171,go_sem,Dep.cs,h] at hm ⊢;refine aa3 fok210 hm ?_;simp only[go_sem];exact ab4 _
 ·simp only[ic171,go_sem,Dep.cs,h];exact ab4 _
theorem gz8 (n:Str)(e:EVR):PC Tryz.prog EE 211 [.str n,.agg e.cs] (.agg (Dep.cs ⟨n,2,e⟩)):=by
 refine ae6 hE fok211 (nZ rfl) (ao8 (.str _) (ef8 e)) ?_;simp only[ic211,go_sem,EVR.cs,Dep.cs]
 exact .keep _ (.agg _ fun c hc=>by
  simp only[zi,zh,or_false] at hc;rcases hc with rfl|rfl|rfl|rfl|rfl
  ·exact .str _
  ·exact .int _ _
  ·exact .int _ _
  ·exact .str _
  ·exact .str _)
theorem gz9 (p:aa2):PC Tryz.prog EE 172 [.agg p.cs] (.agg (own p).cs):=by
 refine ae6 hE fok172 (nZ rfl) (ae5 (ao6 p)) ?_;have ho:=gz8 p.name p.evr;simp only[EVR.cs,Dep.cs] at ho;simp only[ic172,go_sem,aa2.cs,own,Dep.cs];refine aa3 fok211 ho ?_;simp only[go_sem];exact .keep _ (ax3 (own p))
def Pkg.small (p:aa2):Prop:=EVR.small p.evr/\(∀ d∈p.provides,Dep.small d)/\(∀ d∈p.aa8,Dep.small d)/\p.provides.length<2^40/\p.aa8.length<2^40/\p.files.length<2^40
theorem ha5 {p:aa2}(h:Pkg.small p):Dep.small (own p):=⟨by show (0:Int)<=2; decide,by show (2:Int)<256; decide,h.1⟩
theorem bc4 (p:aa2):p.cs.length=15:=rfl
theorem ax4 (p:aa2):p.cs.take 15=p.cs:=rfl
theorem at1 (p:aa2):p.cs.all IV.leaf=true:=rfl
theorem ef9 (p:aa2)(d:Dep)(hp:Pkg.small p)(hd:Dep.small d):PC Tryz.prog EE 128 [.agg p.cs,.agg d.cs] (.bool (named p d)):=by
 refine ae6 hE fok128 (nZ rfl) (ao8 (ao6 p) (ax3 d)) ?_;have ho:=gz9 p;have hm:=fl2 (own p) d (ha5 hp) hd;generalize hx:Dep.cs (own p)=x at ho hm;simp only[ic128,go_sem,bc4,ax4,at1,ap8,am9,al9];refine aa7 ho ?_;simp only[go_sem,ap8,am9,al9];refine aa7 hm ?_;simp only[go_sem];exact ab4 _
theorem ij6 (q:aa2)(d:Dep)(hq:Pkg.small q)(hd:Dep.small d):PC Tryz.prog EE 216 ([]++[.agg d.cs]++[.ab9 q.cs]) (.bool (named q d)):=by
 refine ae6 hE fok216 (nZ rfl) (ao8 (ax3 d) (.ab9 _ (av1 q))) ?_;simp only[ic216,go_sem,bc4,ax4,at1,ap8,am9,al9];refine aa3 fok128 (ef9 q d hq hd) ?_;simp only[go_sem];exact ab4 _
theorem eq6 (p q:aa2)(hp:Pkg.small p)(hq:Pkg.small q):PC Tryz.prog EE 182 [.agg p.cs,.agg q.cs] (.bool (aa8 p q)):=by
 refine ae6 hE fok182 (nZ rfl) (ao8 (ao6 p) (ao6 q)) ?_;have hc:=dh1 p.aa8 216 [] [.ab9 q.cs] (fun d=>named q d) (by have:=hp.2.2.2.2.1; omega) fok216.1 fun d hd=>ij6 q d hq (hp.2.2.1 d hd)
 have hf:(p.cs.drop 9).head? = zc (deps p.aa8):=rfl;simp only[ic182,go_sem,at1,hf];refine aa3 fok150 hc ?_;simp only[go_sem];exact ab4 _
theorem ha6 (a d:Dep)(ha:Dep.small a)(hd:Dep.small d):PC Tryz.prog EE 228 ([]++[.agg a.cs]++[.ab9 d.cs]) (.bool (meets a d)):=by
 refine ae6 hE fok228 (nZ rfl) (ao8 (ax3 a) (bc3 d)) ?_;simp only[ic228,go_sem,ap8,am9,al9];refine aa3 fok171 (fl2 a d ha hd) ?_;simp only[go_sem];exact ab4 _
theorem fc1 (l:List Str)(s:Str)(hl:l.length<2^40):PC Tryz.prog EE 258 [.aa4 (l.map cb9),.str s] (.int .i64 (ai2 (fun x=>decide (s=x)) l 0)):=by
 refine ba5 fok258 (nZ rfl) fun σ=>?_
 simp only[ic258,go_sem];refine ab3 noT (fun i fr t=>t=σ/\fr=[(0,.aa4 (l.map cb9)),(1,.str s),(7,.int .i64 l.length),(8,.int .i64 i)]/\ai2 (fun x=>decide (s=x)) l 0=ai2 (fun x=>decide (s=x)) (l.drop i) i) l.length ⟨rfl,rfl,rfl⟩ ?_;rintro i fr t hi ⟨rfl,rfl,hf⟩;by_cases hlt:i<l.length
 ·obtain ⟨x,ha,_,hdr,hget,_⟩:=ad6 l i hlt;have c1:(i:Int)<l.length:=om
  have c2:(0:Int)<=i:=om
  have w1:=ad1 (i:=i) om;rw[hdr,ai2] at hf;by_cases e:s=x
  ·rw[if_pos (by simpa using e)] at hf;subst e;simp only[go_sem,c1,c2,hget,ef1,cb9,hf,and_self]
  ·rw[if_neg (by simpa using e)] at hf;simp only[go_sem,c1,c2,hget,ef1,cb9,e,w1];exact ⟨hlt,by rw[hf]; simp only[Int.natCast_add,Int.natCast_one]⟩
 ·have hi':i=l.length:=om
  subst hi';have c1:¬ (l.length:Int)<l.length:=om
  rw[zm] at hf;simp only[go_sem,c1,hf,ai2,and_self]
theorem ha7 (l:List Str)(s:Str)(hl:l.length<2^40):PC Tryz.prog EE 229 [.aa4 (l.map cb9),.str s] (.bool (l.contains s)):=by
 refine ba5 fok229 (nZ rfl) fun σ=>?_
 simp only[ic229,go_sem];refine aa3 fok258 (fc1 l s hl) ?_
 have e:l.any (fun x=>decide (s=x))=l.contains s:=by
  induction l with
  | nil=>rfl
  | cons a l ih=>rw[List.any_cons,List.contains_cons,ih (by simp at hl; omega)]; congr 1; by_cases h:s=a<;>simp[h]
 simp only[go_sem,ar4,e,and_self]
theorem dh7 (p:aa2)(d:Dep)(hp:Pkg.small p)(hd:Dep.small d):PC Tryz.prog EE 186 [.agg p.cs,.agg d.cs] (.bool (provides p d)):=by
 refine ae6 hE fok186 (nZ rfl) (ao8 (ao6 p) (ax3 d)) ?_;have hn:=ef9 p d hp hd;have hc:=dh1 p.provides 228 [] [.ab9 d.cs] (fun a=>meets a d) (by have:=hp.2.2.2.1; omega) fok228.1 fun a ha=>ha6 a d (hp.2.1 a ha) hd
 have hs:=ha7 p.files d.name hp.2.2.2.2.2;have hf:(p.cs.drop 6).head? = zc (deps p.provides):=rfl;have hg:(p.cs.drop 14).head? = zc (strs p.files):=rfl;have d0:d.cs.head? = zc (.str d.name):=rfl;have d1:(d.cs.drop 1).head? = zc (.int .u8 d.op):=rfl;unfold provides
 cases hb:named p d with
 | true=>
  rw[hb] at hn;simp only[ic186,go_sem,bc4,ax4,at1,ap8,am9,al9];refine aa3 fok128 hn ?_;simp only[go_sem]
  exact ab4 _
 | false=>
  rw[hb] at hn;simp only[ic186,go_sem,bc4,ax4,at1,ap8,am9,al9];refine aa3 fok128 hn ?_;simp only[go_sem,hf];refine aa3 fok150 hc ?_
  cases ha:p.provides.any (fun a=>meets a d) with
  | true=>
   simp only[go_sem]
   exact ab4 _
  | false=>
   by_cases h0:d.op=0
   ·simp only[go_sem,d0,d1,h0,hg];refine aa3 fok229 hs ?_;simp only[go_sem];exact ab4 _
   ·simp only[go_sem,d0,d1,h0];exact ab4 _
end Go.Id.Tryz
