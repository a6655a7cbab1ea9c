/- Pools: how they are made. Conditions: none. -/
import Derived.Test.YtcdakaadeghccaaGreatDoorTSPE
import Derived.Test.YtcdakaadeghccaaGreatDoorMv
import Derived.Test.YtcdakaadeghccaaGreatDoorFwQ
open List renaming length_map→za,mem_map→zb,length_append→zd,getD_eq_getElem?_getD→zf,map_append→zg,length_cons→zj,mem_cons→zl,take_length→zm,drop_length→zn,not_mem_nil→zp,length_take→zq,length_drop→zr,getElem_mem→zs,drop_eq_getElem_cons→zt,map_cons→zv,length_nil→zw,dropWhile_cons→zx,map_map→zz,drop_of_length_le→z0,nodup_nil→z1,mem_singleton→z4,getElem?_eq_getElem→z7,Pairwise→z8,Perm→z9,take_of_length_le→qa,getElem?_drop→qb,filter_append→qc,dropWhile_nil→qd,foldl_append→qe,append_assoc→qf
open Nat renaming le_refl→zc,add_assoc→zh,not_lt_zero→zi,le_trans→zk,le_succ→zo,zero_le→z2
open Option renaming some→ze,map→zy,none→z6
open Int renaming toNat_natCast→zu
open Bool renaming not_true→z3,false_eq_true→z5
set_option linter.all false
set_option maxRecDepth 100000
set_option maxHeartbeats 1000000
private theorem om{P:Prop}(h:P:=by omega):P:=h
namespace Go.Id.Tryz
open Go Go.Id Go.Proofs Go.Id.Md
theorem bd3 (r:az3):r.cs.length=17:=by unfold az3.cs; rw[zd]; rfl
theorem da1 (r:az3):r.cs.all IV.leaf=true:=by unfold az3.cs; rw[List.all_append]; rfl
theorem fb6 (r:az3):∀ c∈r.cs,Bnd 0 c:=by
 intro c hc;unfold az3.cs at hc;rcases List.mem_append.1 hc with h|h
 ·exact ah7 _ c h
 ·simp only[zl,zp,or_false] at h;rcases h with rfl|rfl<;>exact .int _ _
theorem hl9 {s s':Store}{v:IV}{esz:Nat}{es:List (List IV)}(h:Grow s v esz es):db4 0 s' v=ze (.int .i64 es.length):=by
 rcases h with ⟨rfl,rfl⟩|⟨id,rfl,_⟩<;>rfl
theorem ef3 {s:Store}{v:IV}{esz:Nat}{es:List (List IV)}(h:Grow s v esz es):v.leaf=true:=by
 rcases h with ⟨rfl,rfl⟩|⟨id,rfl,_⟩<;>rfl
theorem gl9 {s:Store}{v:IV}{esz:Nat}{es:List (List IV)}(h:Grow s v esz es):v.cs=[v]:=by
 rcases h with ⟨rfl,rfl⟩|⟨id,rfl,_⟩<;>rfl
structure PS (s:Store) (pp mid:Nat) (rows:List az3) (inst:Int) (L:NmL) (rv:IV) (B:Nat):Prop where
 cell:s.obj pp=ze (.cells [rv,.int .i64 inst,.map mid])
 grow:Grow s rv 17 (rows.map az3.cs)
 map:s.obj mid=ze (.map (mEs L))
 row:∀ t∈L,s.obj t.2.2=ze (.row (t.2.1.map ae4).flatten)/\t.2.2<s.next/\t.2.1.length<=B
 ids:(L.map (·.2.2)).Nodup
 keys:(L.map (·.1)).Nodup
 ne:∀ id n,rv=.slice id 0 n 17->∀ t∈L,t.2.2≠id
 lt:pp<s.next/\mid<s.next
theorem PS.mono {s s':Store}{pp mid:Nat}{rows:List az3}{inst:Int}{L:NmL}{rv:IV}{B:Nat}(h:PS s pp mid rows inst L rv B)(hn:s.next<=s'.next)(ho:∀ i,i<s.next->s'.obj i=s.obj i):PS s' pp mid rows inst L rv B where
 cell:=by rw[ho _ h.lt.1]; exact h.cell
 grow:=h.grow.mono hn fun id _ hid=>ho id hid
 map:=by rw[ho _ h.lt.2]; exact h.map
 row:=fun t ht=>⟨by rw[ho _ (h.row t ht).2.1]; exact (h.row t ht).1,by have:=(h.row t ht).2.1; omega,(h.row t ht).2.2⟩
 ids:=h.ids
 keys:=h.keys
 ne:=h.ne
 lt:=⟨by have:=h.lt.1; omega,by have:=h.lt.2; omega⟩
theorem bx4 (l:List Int):∀ e∈l.map Md.ae4,e.length=1/\e.all IV.leaf=true:=fun e he=>by
 obtain ⟨x,_,rfl⟩:=zb.1 he;exact ⟨rfl,rfl⟩
theorem fb7 (l:List az3):∀ e∈l.map az3.cs,e.length=17/\e.all IV.leaf=true:=fun e he=>by
 obtain ⟨x,_,rfl⟩:=zb.1 he;exact ⟨bd3 x,da1 x⟩
theorem PS.name {s:Store}{pp mid:Nat}{rows:List az3}{inst:Int}{L:NmL}{rv:IV}{B:Nat}(h:PS s pp mid rows inst L rv B)(k:Str)(n:Int)(m nid:Nat)(hm:s.next<=m)(hnew:s.next<=nid)(hb:B<2^30) :
  ∃ s1,as5 ⟨m,s.obj⟩ nid 1 (cy2 L k) (.aa4 [[.int .i64 n]])=ze (.slice nid 0 ((ce3 L k).length+1) 1,s1)/\s1.next=m/\s1.obj mid=ze (.map (mEs L))/\(∀ i cs,i<s.next->s.obj i=ze (.cells cs)->s1.obj i=ze (.cells cs)) /\
   ∀ nx,nid<nx->PS ⟨nx,(s1.put mid (.map (mEs (bb8 L k n nid)))).obj⟩ pp mid rows inst (bb8 L k n nid) rv (B+1):=by
 have hg0:Grow s (cy2 L k) 1 ((ce3 L k).map Md.ae4):=by
  rcases ca6 L k with ⟨h1,h2⟩|⟨t,ht,_,h1,h2⟩
  ·rw[h1,h2]; exact .inl ⟨rfl,rfl⟩
  ·rw[h1,h2]; exact .inr ⟨t.2.2,by rw[za],(h.row t ht).1,(h.row t ht).2.1⟩
 have hg:Grow ⟨m,s.obj⟩ (cy2 L k) 1 ((ce3 L k).map Md.ae4):=Grow.mono (σ:=s) hg0 hm fun _ _ _=>rfl
 have hlen:(ce3 L k).length<=B:=by
  rcases ca6 L k with ⟨h1,h2⟩|⟨t,ht,_,h1,h2⟩
  ·rw[h2]; exact z2 _
  ·rw[h2]; exact (h.row t ht).2.2
 have hap:=am4 (nid:=nid) (e:=[.int .i64 n]) hg (bx4 _) ⟨rfl,rfl⟩ (by rw[za]; omega);rw[za] at hap;have hmid:¬ mid=nid:=by have:=h.lt.2; omega
 have hpp:¬ pp=nid:=by have:=h.lt.1; omega
 have hpm:¬ pp=mid:=fun e=>by have h1:=h.cell; have h2:=h.map; rw[e,h2] at h1; cases h1
 have km:=ah3 hg mid _ h.map (fun _ e=>by cases e);have kp:=ah3 hg pp _ h.cell (fun _ e=>by cases e)
 have kother:∀ i cs,s.obj i=ze (.row cs)->(∀ t∈L,t.1=k->t.2.2≠i)->(ag2 (cy2 L k) ⟨m,s.obj⟩).obj i=ze (.row cs):=by
  intro i cs hi hne;rcases ca6 L k with ⟨h1,_⟩|⟨t,ht,hk,h1,_⟩
  ·rw[h1]; exact hi
  ·rw[h1];show (if i=t.2.2 then z6 else s.obj i)=_;rw[if_neg (fun e=>hne t ht hk e.symm)]; exact hi
 refine ⟨_,hap,by rw[aa7,ac9],by rw[aa5,if_neg hmid]; exact km,fun i cs hi h=>by rw[aa5,if_neg om]; exact ah3 hg i _ h (fun _ e=>by cases e),fun nx hnx=>?_⟩;have hrow_ne_mid:∀ i cs,s.obj i=ze (.row cs)->¬ i=mid:=fun i cs hi e=>by subst e; rw[h.map] at hi; cases hi
 exact {
  cell:=by
   show (if pp=mid then _ else if pp=nid then _ else (ag2 (cy2 L k) ⟨m,s.obj⟩).obj pp)=_;rw[if_neg hpm,if_neg hpp]; exact kp
  grow:=by
   rcases h.grow with h1|⟨id,hv,ho,hlt⟩
   ·exact .inl h1
   ·refine .inr ⟨id,hv,?_,by show id<nx; omega⟩;show (if id=mid then _ else if id=nid then _ else (ag2 (cy2 L k) ⟨m,s.obj⟩).obj id)=_;rw[if_neg (hrow_ne_mid _ _ ho),if_neg om];exact kother id _ ho fun t ht _=>h.ne id _ hv t ht
  map:=by
   show (if mid=mid then _ else _)=_;rw[if_pos rfl]
  row:=by
   intro t ht;rcases dr7 h.keys t ht with ⟨h1,h2⟩|rfl
   ·obtain ⟨r1,r2,r3⟩:=h.row t h1;refine ⟨?_,by show t.2.2<nx; omega,om⟩;show (if t.2.2=mid then _ else if t.2.2=nid then _ else (ag2 (cy2 L k) ⟨m,s.obj⟩).obj t.2.2)=_;rw[if_neg (hrow_ne_mid _ _ r1),if_neg om];exact kother _ _ r1 fun u hu hk e=>h2 (by rw[<- gf6 h.keys h.ids u hu t h1 e]; exact hk)
   ·refine ⟨?_,hnx,?_⟩
    ·show (if nid=mid then _ else if nid=nid then _ else _)=_;rw[if_neg (fun e=>hmid e.symm),if_pos rfl,zg];rfl
    ·show (ce3 L k++[n]).length<=B+1;rw[zd]; simp; exact hlen
  ids:=(gf5 L h.ids (fun hm=>by
   obtain ⟨t,ht,e⟩:=zb.1 hm;have:=(h.row t ht).2.1;have e':t.2.2=nid:=e;omega)).1
  keys:=(ex2 L h.keys).1
  ne:=by
   intro id m hv t ht;rcases dr7 h.keys t ht with ⟨h1,h2⟩|rfl
   ·exact h.ne id m hv t h1
   ·rcases h.grow with ⟨h1,_⟩|⟨id',hv',ho,hlt⟩
    ·rw[h1] at hv; cases hv
    ·rw[hv'] at hv;cases hv;show nid≠id;omega
  lt:=⟨by have:=h.lt.1; show pp<nx; omega,by have:=h.lt.2; show mid<nx; omega⟩ }
theorem hm3 {σ:Store}{mid:Nat}{L:NmL}(h:σ.obj mid=ze (.map (mEs L)))(k:Str):de1 σ 2 .aa1 false (.map mid) (.str k)=ze (cy2 L k):=by
 obtain ⟨r,h1,h2⟩:=im2 L k;simp only[de1,cr9,h,h1,h2,z5,if_false]
theorem fb8 {σ:Store}{mid:Nat}{L:NmL}(h:σ.obj mid=ze (.map (mEs L)))(k:Str)(n:Int)(nid:Nat):aw8 σ 2 (.map mid) (.str k) (.slice nid 0 ((ce3 L k).length+1) 1)=ze (σ.put mid (.map (mEs (bb8 L k n nid)))):=by
 simp only[aw8,h,jq5 L k n nid,zy]
theorem fb9 (x:aa2):x.cs.head? = ze (.str x.name):=rfl
theorem bl1 (x:aa2):(x.cs++[IV.int .i64 0,IV.int .i64 0]).length=17:=rfl
theorem bl2 (x:aa2)(a:Int):(av1 (x.cs++[IV.int .i64 0,IV.int .i64 0]) 15 [IV.int .i64 a]).length=17:=rfl
theorem bl3 (x:aa2)(a b:Int):av1 (av1 (x.cs++[IV.int .i64 0,IV.int .i64 0]) 15 [IV.int .i64 a]) 16 [IV.int .i64 b]=(az3.mk x a b).cs:=rfl
theorem gm1 (r:az3):r.cs.take 17=r.cs:=qa (by rw[bd3]; exact zc _)
theorem PS.push {s:Store}{pp mid:Nat}{rows:List az3}{inst:Int}{L:NmL}{rv:IV}{B:Nat}(h:PS s pp mid rows inst L rv B)(r:az3)(m nid:Nat)(hm:s.next<=m)(hnew:s.next<=nid)(hb:rows.length<2^30) :
  ∃ s1,as5 ⟨m,s.obj⟩ nid 17 rv (.aa4 [r.cs])=ze (.slice nid 0 (rows.length+1) 17,s1)/\s1.next=m/\s1.obj pp=s.obj pp /\
   ∀ nx,nid<nx->PS ⟨nx,(s1.put pp (.cells [.slice nid 0 (rows.length+1) 17,.int .i64 inst,.map mid])).obj⟩ pp mid (rows++[r]) inst L (.slice nid 0 (rows.length+1) 17) B:=by
 have hg:Grow ⟨m,s.obj⟩ rv 17 (rows.map az3.cs):=Grow.mono (σ:=s) h.grow hm fun _ _ _=>rfl
 have hap:=am4 (nid:=nid) (e:=r.cs) hg (fb7 rows) ⟨bd3 r,da1 r⟩ (by rw[za]; omega);rw[za] at hap;have hmid:¬ mid=nid:=by have:=h.lt.2; omega
 have hpp:¬ pp=nid:=by have:=h.lt.1; omega
 have hmp:¬ mid=pp:=fun e=>by have h1:=h.cell; have h2:=h.map; rw[<- e,h2] at h1; cases h1
 have km:=ah3 hg mid _ h.map (fun _ e=>by cases e);have kp:=ah3 hg pp _ h.cell (fun _ e=>by cases e);refine ⟨_,hap,by rw[aa7,ac9],by rw[aa5,if_neg hpp,kp,h.cell],fun nx hnx=>?_⟩
 exact {
  cell:=by
   show (if pp=pp then _ else _)=_;rw[if_pos rfl]
  grow:=by
   refine .inr ⟨nid,by rw[zg,zd,za]; rfl,?_,hnx⟩;show (if nid=pp then _ else if nid=nid then _ else _)=_;rw[if_neg (fun e=>hpp e.symm),if_pos rfl,zg]; rfl
  map:=by
   show (if mid=pp then _ else if mid=nid then _ else (ag2 rv ⟨m,s.obj⟩).obj mid)=_;rw[if_neg hmp,if_neg hmid]; exact km
  row:=by
   intro t ht;obtain ⟨r1,r2,r3⟩:=h.row t ht;refine ⟨?_,by show t.2.2<nx; omega,r3⟩;have e1:¬ t.2.2=pp:=fun e=>by rw[e,h.cell] at r1; cases r1
   show (if t.2.2=pp then _ else if t.2.2=nid then _ else (ag2 rv ⟨m,s.obj⟩).obj t.2.2)=_;rw[if_neg e1,if_neg om];rcases h.grow with ⟨hv,_⟩|⟨id,hv,ho,hlt⟩
   ·rw[hv]; exact r1
   ·rw[hv];show (if t.2.2=id then z6 else s.obj t.2.2)=_;rw[if_neg (h.ne id _ hv t ht)]; exact r1
  ids:=h.ids
  keys:=h.keys
  ne:=by
   intro id m hv t ht;cases hv;have:=(h.row t ht).2.1;omega
  lt:=⟨by have:=h.lt.1; show pp<nx; omega,by have:=h.lt.2; show mid<nx; omega⟩ }
def kf3 (n pp mid:Nat)(rows:List az3)(inst:Int)(nm:Nms)(l:List aa2)(dl9 prio:Int):IV->Store->Prop:=fun v s=>
 n<=s.next/\((l.all ah8=true/\v=.int .i64 0/\∃ L rv,ba9 L=dc6 nm rows.length l/\PS s pp mid (rows++rowsOf l dl9 prio) inst L rv (rows.length+l.length))\/(l.all ah8=false/\v=.int .i64 4))
theorem jg8 (l:List aa2)(hl:l.length<2^20)(hf:∀ p∈l,p.Fit)(dl9 prio:Int)(σ:Store)(pp mid:Nat)(rows:List az3)(hr:rows.length<2^20)(inst:Int)(L:NmL)(rv:IV)(hp:PS σ pp mid rows inst L rv rows.length) :
  C Tryz.prog EE 25 [.ptr pp 0,.aa4 (l.map aa2.cs),.int .i64 dl9,.int .i64 prio] σ (kf3 σ.next pp mid rows inst (ba9 L) l dl9 prio):=by
 refine C_f fok25 (nZ rfl) ?_;simp only[ic25,go_sem]
 refine ab1 noT (fun i fr s=>fr=[(0,.ptr pp 0),(2,.int .i64 dl9),(3,.int .i64 prio),(11,.aa4 (l.map aa2.cs)),(12,.int .i64 l.length),(13,.int .i64 i)]/\σ.next<=s.next/\(l.take i).all ah8=true /\
  ∃ L' rv',dc6 (ba9 L') (rows.length+i) (l.drop i)=dc6 (ba9 L) rows.length l/\PS s pp mid (rows++rowsOf (l.take i) dl9 prio) inst L' rv' (rows.length+i)) l.length ⟨rfl,zc _,rfl,L,rv,rfl,by simpa [rowsOf] using hp⟩ ?_
 rintro i fr s hle ⟨rfl,hn,hall,L',rv',hnm,h⟩;by_cases hlt:i<l.length
 ·obtain ⟨x,hx,_,hdr,hget,htk⟩:=ad6 l i hlt;have c1:(i:Int)<l.length:=om
  have c2:(0:Int)<=i:=om
  have w1:=ac4 (i:=i) om;simp only[go_sem,c1,c2,hget,af8,ah2,af4];refine aa8 (gl3 x (hf x hx)) ?_
  cases hm:ah8 x with
  | false=>
   have:l.all ah8=false:=by rw[List.all_eq_false]; exact ⟨x,hx,by simp[hm]⟩
   simp only[go_sem]
   exact ⟨by simp only[aa7]; omega,.inr ⟨this,rfl⟩⟩
  | true=>
   generalize hS:Store.mk (s.next+1) _=S1;have hS1:S1.next=s.next+1:=by rw[<- hS]
   have hbx:S1.obj s.next=ze (.cells x.cs):=by
    rw[<- hS]; simp only[aa5,if_true]
   have h1:PS S1 pp mid (rows++rowsOf (l.take i) dl9 prio) inst L' rv' (rows.length+i):=h.mono om fun j hj=>by
    have e:¬ j=s.next:=om
    rw[<- hS]; simp only[aa5,e,if_false]
   have hlen:=hl9 (s':=⟨S1.next+21,S1.obj⟩) h1.grow
   have hrl:((rows++rowsOf (l.take i) dl9 prio).map az3.cs).length=rows.length+i:=by
    rw[za,zd,rowsOf,za,zq]; omega
   rw[hrl] at hlen;obtain ⟨s2,ha1,ha2,ha3,ha4,hps⟩:=h1.name x.name ((rows.length+i:Nat):Int) (S1.next+21) (S1.next+19) om om om;have hlk:=hm3 (σ:=⟨S1.next+21,S1.obj⟩) h1.map x.name;simp only[go_sem,zh,h1.cell,hbx,hlen,fb9,hlk];rw[ha1];simp only[go_sem,zh];rw[fb8 ha3 x.name ((rows.length+i:Nat):Int)];have h2:=hps (S1.next+21) om;have hmb:¬ s.next=mid:=by have:=h.lt.2; omega
   have hb2:(s2.put mid (al8.map (mEs (bb8 L' x.name ((rows.length+i:Nat):Int) (S1.next+19))))).obj s.next=ze (.cells x.cs):=by
    simp only[aa5,hmb,if_false];exact ha4 _ _ om hbx
   have hn3:(s2.put mid (al8.map (mEs (bb8 L' x.name ((rows.length+i:Nat):Int) (S1.next+19))))).next=S1.next+21:=ha2;generalize s2.put mid (al8.map (mEs (bb8 L' x.name ((rows.length+i:Nat):Int) (S1.next+19))))=S3 at *;obtain ⟨s4,hb3,hb4,hb5,hps2⟩:=h2.push ⟨x,dl9,prio⟩ (S3.next+15) (S3.next+11) (by show S1.next+21<=_; omega) (by show S1.next+21<=_; omega) (by rw[zd,rowsOf,za,zq]; omega);have hc3:=h2.cell;simp only at hc3 hb3;simp only[go_sem,zh,hc3,hb2,af8,ah2,af4];refine aa8 (dm9 x (hf x hx)) ?_;simp only[go_sem,zh,af8,ah2,af4,bl1,bl2,bl3,bd3,da1,gm1,List.append_nil,List.drop_nil];rw[hb3];have hc4:s4.obj pp=ze (.cells [rv',.int .i64 inst,.map mid]):=by rw[hb5]; exact hc3
   simp only[go_sem,zh,hc4,w1];have h5:=hps2 s4.next (by rw[hb4]; omega);refine ⟨hlt,om,?_,bb8 L' x.name ((rows.length+i:Nat):Int) (S1.next+19),.slice (S3.next+11) 0 ((rows++rowsOf (l.take i) dl9 prio).length+1) 17,?_,?_⟩
   ·rw[htk,List.all_append,hall]; simp[hm]
   rotate_left
   ·rw[htk,en6,<- qf];exact h5
   ·rw[<- hnm,hdr,dc6,ct9,<- zh]
 ·have hi':i=l.length:=om
  subst hi';have c1:¬ (l.length:Int)<l.length:=om
  simp only[go_sem,c1];rw[zm] at hall h;rw[zn] at hnm;exact ⟨hn,.inl ⟨hall,rfl,L',rv',hnm,h⟩⟩
def am5.Fit (r:am5):Prop:=r.packages.length<2^20/\∀ p∈r.packages,p.Fit
theorem hm4 (r:am5):∀ c∈r.cs,Bnd 0 c:=by
 intro c hc;simp only[am5.cs,zl,zp,or_false] at hc;rcases hc with rfl|rfl
 ·exact .int _ _
 ·exact .aa4 _ fun e he c hc=>by
   obtain ⟨p,_,rfl⟩:=zb.1 he; exact ah7 p c hc
abbrev au1 (l:List aa2):IV:=.aa4 (l.map aa2.cs)
abbrev az4 (l:List am5):IV:=.aa4 (l.map am5.cs)
theorem aq4 (l:List aa2):Bnd 0 (au1 l):=.aa4 _ fun e he c hc=>by
 obtain ⟨p,_,rfl⟩:=zb.1 he; exact ah7 p c hc
theorem bo1 (l:List am5):Bnd 0 (az4 l):=.aa4 _ fun e he c hc=>by
 obtain ⟨p,_,rfl⟩:=zb.1 he; exact hm4 p c hc
theorem al3 {P:IV->Prop}{u v:IV}(hu:P u)(hv:P v):∀ a∈[u,v],P a:=fun a ha=>by
 cases ha with
 | head=>exact hu
 | tail _ h=>cases h with
  | head=>exact hv
  | tail _ h=>cases h
theorem bj4 (r:am5):r.cs.length=2:=rfl
theorem bo2 (r:am5):r.cs.all IV.leaf=true:=rfl
theorem bo3 (r:am5):r.cs.take 2=r.cs:=rfl
theorem cv2 (l:List am5)(i:Nat)(a:am5)(h:l.drop i=a::l.drop (i+1)):af5 (l.drop i)=a.packages.length+af5 (l.drop (i+1)):=by
 rw[h]; simp[af5]
theorem PS.frz {s:Store}{pp mid:Nat}{rows:List az3}{inst:Int}{L:NmL}{rv:IV}{B:Nat}(h:PS s pp mid rows inst L rv B):cs9 s 0 (.ptr pp 0) (Pool.v ⟨rows,inst,ba9 L⟩):=by
 refine .ptr pp 0 _ _ (zi _) (.inl h.cell) (zc _) fun j hj=>?_
 have hj3:j=0\/j=1\/j=2:=by simp only[zj,zw] at hj; omega
 rcases hj3 with rfl|rfl|rfl
 ·refine h.grow.frz (fun x hx=>(fb7 rows x hx).1) (fun _ _=>zi _) fun e he c hc=>?_
  obtain ⟨r,_,rfl⟩:=zb.1 he;exact fb6 r c hc
 ·exact ad1 _ _
 ·have hat:∀ i,i<(mEs L).length->∃ t∈L,(mEs L).getD i (.undef,.undef)=(.str t.1,.slice t.2.2 0 t.2.1.length 1)/\(nmV (ba9 L)).getD i (.undef,.undef)=(.str t.1,.aa4 (t.2.1.map Md.ae4)):=by
   intro i hi;have hi':i<L.length:=by simpa [mEs] using hi
   exact ⟨L[i],zs hi',by simp[mEs,zf,hi'],by simp[nmV,ba9,zf,hi']⟩
  refine .map mid (mEs L) (nmV (ba9 L)) (nmV (ba9 L)) (zi _) h.map (by simp[nmV,ba9,mEs]) (z9.refl _) ⟨?_,.str,fun e he=>?_⟩ (fun i hi=>?_) (fun i hi=>?_)
  ·have:(nmV (ba9 L)).map (·.1)=(L.map (·.1)).map IV.str:=by simp[nmV,ba9]
   rw[this];exact z8.map _ (fun a b hab e=>hab (by cases e; rfl)) h.keys
  ·simp only[nmV,zb] at he;obtain ⟨t,_,rfl⟩:=he;trivial
  ·obtain ⟨t,ht,e1,e2⟩:=hat i hi;rw[e1,e2]; exact bi4 _
  ·obtain ⟨t,ht,e1,e2⟩:=hat i hi;rw[e1,e2];obtain ⟨r1,r2,_⟩:=h.row t ht;have hg:Grow s (.slice t.2.2 0 t.2.1.length 1) 1 (t.2.1.map Md.ae4):=.inr ⟨t.2.2,by rw[za],r1,r2⟩;refine hg.frz (fun x hx=>(bx4 _ x hx).1) (fun _ _=>zi _) fun e he c hc=>?_
   obtain ⟨n,_,rfl⟩:=zb.1 he
   cases hc with
   | head=>exact .int _ _
   | tail _ h=>cases h
theorem du3 {s:Store}(n:Int):cs9 s 0 (.tuple [.ae7,.int .i64 n]) (.tuple [.ae7,.int .i64 n]):=.cp9 (.cons (.keep _ .ae7) (.cons (ad1 _ _) .nil))
theorem co4 (ab3:List am5)(inst:List aa2)(h1:ab3.length<2^20)(h2:inst.length<2^20)(h3:af5 ab3<2^40)(hr:∀ r∈ab3,am5.Fit r)(hi:∀ p∈inst,p.Fit) :
  PC Tryz.prog EE 5 [az4 ab3,au1 inst] (jd1 (ce2 ab3 inst)):=by
 refine ae5 hE fok5 (nZ rfl) (al3 (bo1 _) (aq4 _)) ?_;simp only[ic5,go_sem];refine ab1 noT (fun i fr s=>∃ n:Nat,fr=[(0,az4 ab3),(1,au1 inst),(6,.int .i64 n),(16,az4 ab3),(17,.int .i64 ab3.length),(18,.int .i64 i)]/\n+af5 (ab3.drop i)=inst.length+af5 ab3) ab3.length ⟨inst.length,rfl,rfl⟩ ?_;rintro i fr s hle ⟨n,rfl,hn⟩;by_cases hlt:i<ab3.length
 ·obtain ⟨a,ha,_,hdr,hget,htk⟩:=ad6 ab3 i hlt;have c1:(i:Int)<ab3.length:=om
  have c2:(0:Int)<=i:=om
  have w1:=ac4 (i:=i) om;rw[cv2 ab3 i a hdr] at hn
  have w2:IntKind.i64.wrap ((n:Int)+a.packages.length)=((n+a.packages.length:Nat):Int):=by
   rw[wrap64 om om]; omega
  simp only[go_sem,c1,c2,hget,bj4,bo3,bo2];simp only[go_sem,am5.cs,w1,w2];exact ⟨hlt,n+a.packages.length,rfl,om⟩
 have hi':i=ab3.length:=om
 subst hi';have c1:¬ (ab3.length:Int)<ab3.length:=om
 have hn0:n=inst.length+af5 ab3:=by rw[zn] at hn; simpa [af5] using hn
 subst hn0;by_cases b1:16<ab3.length
 ·have b1':(16:Int)<ab3.length:=om
  simp only[go_sem,c1,b1',ce2,b1,true_or];exact .cp9 (.cons (.keep _ .ae7) (.cons (ad1 _ _) .nil))
 have b1':¬ (16:Int)<ab3.length:=om
 by_cases b2:256<inst.length+af5 ab3
 ·have b2':(256:Int)<((inst.length+af5 ab3:Nat):Int):=om
  simp only[go_sem,c1,b1',b2',ce2,b1,b2,or_true];exact .cp9 (.cons (.keep _ .ae7) (.cons (ad1 _ _) .nil))
 have b2':¬ (256:Int)<((inst.length+af5 ab3:Nat):Int):=om
 simp only[go_sem,c1,b1',b2']
 have hp0:PS ⟨s.next+2,((Store.put ⟨s.next+2,s.obj⟩ s.next (al8.map [])).put (s.next+1) (al8.cells [.aa1,.int .i64 inst.length,.map s.next])).obj⟩ (s.next+1) s.next [] inst.length [] .aa1 0 :=
  {cell:=by simp only[aa5,if_true]
   grow:=.inl ⟨rfl,rfl⟩
   map:=by
    have e:¬ s.next=s.next+1:=om
    simp only[aa5,e,if_false,if_true]; rfl
   row:=fun t ht=>by cases ht
   ids:=z1
   keys:=z1
   ne:=fun _ _ h=>by cases h
   lt:=⟨by show s.next+1<s.next+2; omega,by show s.next<s.next+2; omega⟩ }
 refine ad3 fok25 (jg8 inst h2 hi (-1) 1025 _ (s.next+1) s.next [] (by decide) inst.length [] .aa1 hp0) ?_;rintro v s2 ⟨n2,⟨g1,rfl,L1,rv1,g2,g3⟩|⟨g1,rfl⟩⟩
 case inr=>
  refine ⟨n2,?_⟩;simp only[go_sem,ce2,b1,b2,or_self,g1];exact du3 _
 refine ⟨n2,?_⟩
 have hres:ce2 ab3 inst=match aj9 0 ab3 (rowsOf inst (-1) 1025,dc6 [] 0 inst) with
  | some (rows,nm)=>.inl ⟨rows,inst.length,nm⟩
  | none=>.inr 4:=by
  simp only[ce2,b1,b2,or_self,if_false,g1,Bool.true_eq_false];rfl
 rw[hres];simp only[go_sem]
 refine ab1 noT (fun i fr t=>fr=[(9,.ptr (s.next+1) 0),(46,az4 ab3),(47,.int .i64 ab3.length),(48,.int .i64 i)]/\∃ rows L rv,PS t (s.next+1) s.next rows inst.length L rv rows.length /\
  aj9 0 ab3 (rowsOf inst (-1) 1025,dc6 [] 0 inst)=aj9 i (ab3.drop i) (rows,ba9 L)/\rows.length+af5 (ab3.drop i)=inst.length+af5 ab3) ab3.length ⟨rfl,rowsOf inst (-1) 1025,L1,rv1,?_,?_,?_⟩ ?_
 ·have e:(rowsOf inst (-1) 1025).length=0+inst.length:=by rw[bs9]; omega
  rw[e]; exact g3
 ·rw[g2]; rfl
 ·rw[bs9]; rfl
 rintro i fr t hle ⟨rfl,rows,L,rv,hp,hrf,hsum⟩;by_cases hlt:i<ab3.length
 ·obtain ⟨a,ha,_,hdr,hget,htk⟩:=ad6 ab3 i hlt;have c1:(i:Int)<ab3.length:=om
  have c2:(0:Int)<=i:=om
  have w1:=ac4 (i:=i) om;rw[cv2 ab3 i a hdr] at hsum;rw[hdr] at hrf;simp only[go_sem,c1,c2,hget,bj4,bo3,bo2];by_cases p1:a.priority<0
  ·simp only[go_sem,am5.cs,p1];rw[hrf,aj9,if_pos (.inl p1)];exact du3 _
  by_cases p2:1024<a.priority
  ·simp only[go_sem,am5.cs,p1,p2];rw[hrf,aj9,if_pos (.inr (.inl p2))];exact du3 _
  simp only[go_sem,am5.cs,p1,p2]
  have hp1:PS ⟨t.next+1,((Store.put ⟨t.next+1,t.obj⟩ t.next (al8.cells [.int .i64 0,.aa1])).put t.next (al8.cells [.int .i64 a.priority,au1 a.packages])).obj⟩ (s.next+1) s.next rows inst.length L rv rows.length:=hp.mono (zo _) fun j hj=>by
   have e:¬ j=t.next:=om
   simp only[aa5,e,if_false]
  refine ad3 fok25 (jg8 a.packages (hr a ha).1 (hr a ha).2 i a.priority _ (s.next+1) s.next rows om inst.length L rv hp1) ?_;rintro v s3 ⟨n3,⟨k1,rfl,L2,rv2,k2,k3⟩|⟨k1,rfl⟩⟩
  ·refine ⟨n3,?_⟩;simp only[go_sem,w1];refine ⟨hlt,rows++rowsOf a.packages i a.priority,L2,rv2,?_,?_,?_⟩
   ·rw[zd,bs9]; exact k3
   ·rw[hrf,aj9,if_neg (by simp[p1,p2,k1]),k2]
   ·rw[zd,bs9]; omega
  ·refine ⟨n3,?_⟩;simp only[go_sem];rw[hrf,aj9,if_pos (.inr (.inr k1))];exact du3 _
 have hi':i=ab3.length:=om
 subst hi';have c1:¬ (ab3.length:Int)<ab3.length:=om
 rw[zn] at hrf;simp only[go_sem,c1];rw[hrf,aj9];exact .cp9 (.cons hp.frz (.cons (ad1 _ _) .nil))
end Go.Id.Tryz
namespace Go.Id.Tryz
open Go Go.Id Go.Proofs Go.Id.Md
theorem gm2 (s:Str):PC Tryz.prog EE 260 [.str s] (.bool false):=by
 refine av9 fok260 (nZ rfl) fun σ=>?_
 simp only[ic260,go_sem,and_self,bne_self_eq_false,decide_true,z3]
theorem gm3 (n:Int):PC Tryz.prog EE 259 [.int .u8 n] (.bool false):=by
 refine av9 fok259 (nZ rfl) fun σ=>?_
 simp only[ic259,go_sem,and_self,bne_self_eq_false,decide_true,z3]
theorem gm4 (n:Int):PC Tryz.prog EE 125 [.int .i64 n] (.bool false):=by
 refine av9 fok125 (nZ rfl) fun σ=>?_
 simp only[ic125,go_sem,and_self,bne_self_eq_false,decide_true,z3]
theorem bb3 (a b:Int):PC Tryz.prog EE 67 [.int .i64 a,.int .i64 b] (.int .i64 (al7 a b)):=by
 refine av9 fok67 (nZ rfl) fun σ=>?_
 simp only[ic67,go_sem];refine aa3 fok125 (gm4 a) ?_;simp only[go_sem];refine aa3 fok125 (gm4 b) ?_;simp only[go_sem];by_cases h1:a<b
 ·simp only[go_sem,h1,al7,and_self]
 ·by_cases h2:b<a
  ·have h3:¬ a=b:=om
   simp only[go_sem,h1,h2,h3,al7,and_self]
  ·have h3:a=b:=om
   subst h3;simp only[go_sem,h1,al7,and_self,if_false,if_true]
theorem eq6 (a b:Int):PC Tryz.prog EE 240 [.int .u8 a,.int .u8 b] (.int .i64 (al7 a b)):=by
 refine av9 fok240 (nZ rfl) fun σ=>?_
 simp only[ic240,go_sem];refine aa3 fok259 (gm3 a) ?_;simp only[go_sem];refine aa3 fok259 (gm3 b) ?_;simp only[go_sem];by_cases h1:a<b
 ·simp only[go_sem,h1,al7,and_self]
 ·by_cases h2:b<a
  ·have h3:¬ a=b:=om
   simp only[go_sem,h1,h2,h3,al7,and_self]
  ·have h3:a=b:=om
   subst h3;simp only[go_sem,h1,al7,and_self,if_false,if_true]
theorem eq7 (a b:Str):PC Tryz.prog EE 241 [.str a,.str b] (.int .i64 (cm4 a b)):=by
 refine av9 fok241 (nZ rfl) fun σ=>?_
 simp only[ic241,go_sem];refine aa3 fok260 (gm2 a) ?_;simp only[go_sem];refine aa3 fok260 (gm2 b) ?_;simp only[go_sem]
 cases h1:Op.bytesLess a b with
 | true=>simp only[go_sem,h1,cm4,and_self]
 | false=>
  by_cases h3:a=b
  ·subst h3;simp only[go_sem,h1,cm4,and_self,z5,if_false,if_true,decide_true,Bool.or_true,z3]
  ·simp only[go_sem,h1,h3,cm4,and_self,z5,if_false,decide_false,Bool.or_false,Bool.not_false]
def orM:List Int->Int
 | []=>0
 | a::l=>if a=0 then orM l else a
theorem iq3 (l:List Int)(hl:l.length<2^40):PC Tryz.prog EE 239 [.aa4 (l.map Md.ae4)] (.int .i64 (orM l)):=by
 refine av9 fok239 (nZ rfl) fun σ=>?_
 simp only[ic239,go_sem];refine ab1 noT (fun i fr s=>fr=[(3,.int .i64 0),(6,.aa4 (l.map Md.ae4)),(7,.int .i64 l.length),(8,.int .i64 i)]/\s=σ/\orM l=orM (l.drop i)) l.length ⟨rfl,rfl,rfl⟩ ?_;rintro i fr s hle ⟨rfl,rfl,hI⟩;by_cases hlt:i<l.length
 ·obtain ⟨x,hx,_,hdr,hget,htk⟩:=ad6 l i hlt;have c1:(i:Int)<l.length:=om
  have c2:(0:Int)<=i:=om
  have w1:=ac4 (i:=i) om;rw[hdr,orM] at hI;by_cases e:x=0
  ·rw[if_pos e] at hI;subst e;simp only[go_sem,c1,c2,hget,Md.ae4,w1];exact ⟨hlt,hI⟩
  ·rw[if_neg e] at hI;simp only[go_sem,c1,c2,hget,Md.ae4,e,hI,and_self]
 ·have hi':i=l.length:=om
  subst hi';have c1:¬ (l.length:Int)<l.length:=om
  rw[zn,orM] at hI;simp only[go_sem,c1,hI,and_self]
theorem gm5 (n:Int)(h:n=-1\/n=0\/n=1):PC Tryz.prog EE 207 [.int .i64 n] (.int .u8 (if n<0 then 1 else if n=0 then 2 else 4)):=by
 rcases h with rfl|rfl|rfl
 all_goals
  refine ae5 hE fok207 (nZ rfl) (af3 (.int _ _)) ?_;simp only[ic207,go_sem];exact .keep _ (.int _ _)
def vkN (n:Nat):Nat:=if n=126 then 1 else if n=94 then 3 else if 97<=n/\n<=122\/65<=n/\n<=90 then 4 else if 48<=n/\n<=57 then 5 else 0
theorem gm6 (b:UInt8):ad2 b=vkN b.toNat:=by
 have h:∀ n,n<256->ad2 (UInt8.ofNat n)=vkN n:=by decide +kernel
 have:=h b.toNat b.toNat_lt
 rwa [UInt8.ofNat_toNat] at this
theorem eq8 (b:UInt8):PC Tryz.prog EE 257 [.int .u8 b.toNat] (.int .u8 (ad2 b)):=by
 rw[gm6];have hb:=b.toNat_lt;generalize b.toNat=n at *;unfold vkN;refine ae5 hE fok257 (nZ rfl) (af3 (.int _ _)) ?_;by_cases e1:n=126
 ·have e1':(n:Int)=126:=om
  rw[if_pos e1];simp only[ic257,go_sem,e1'];exact .keep _ (.int _ _)
 have e1':¬ (n:Int)=126:=om
 rw[if_neg e1];by_cases e2:n=94
 ·have e2':(n:Int)=94:=om
  have q:¬ (94:Int)=126:=by decide
  rw[if_pos e2];simp only[ic257,go_sem,e2',q];exact .keep _ (.int _ _)
 have e2':¬ (n:Int)=94:=om
 rw[if_neg e2];by_cases e3:97<=n/\n<=122
 ·have f1:(97:Int)<=n:=om
  have f2:(n:Int)<=122:=om
  rw[if_pos (.inl e3)];simp only[ic257,go_sem,e1',e2',f1,f2];exact .keep _ (.int _ _)
 by_cases e4:65<=n/\n<=90
 ·have f1:¬ (97:Int)<=n:=om
  have f3:(65:Int)<=n:=om
  have f4:(n:Int)<=90:=om
  rw[if_pos (.inr e4)];simp only[ic257,go_sem,e1',e2',f1,f3,f4];exact .keep _ (.int _ _)
 rw[if_neg (fun h=>h.elim e3 e4)];by_cases e5:48<=n/\n<=57
 ·have f1:¬ (97:Int)<=n:=om
  have f3:¬ (65:Int)<=n:=om
  have f5:(48:Int)<=n:=om
  have f6:(n:Int)<=57:=om
  rw[if_pos e5];simp only[ic257,go_sem,e1',e2',f1,f3,f5,f6];exact .keep _ (.int _ _)
 rw[if_neg e5];by_cases f1:(97:Int)<=n
 ·have f2:¬ (n:Int)<=122:=om
  have f3:(65:Int)<=n:=om
  have f4:¬ (n:Int)<=90:=om
  have f5:(48:Int)<=n:=om
  have f6:¬ (n:Int)<=57:=om
  simp only[ic257,go_sem,e1',e2',f1,f2,f3,f4,f5,f6];exact .keep _ (.int _ _)
 by_cases f3:(65:Int)<=n
 ·have f4:¬ (n:Int)<=90:=om
  have f5:(48:Int)<=n:=om
  have f6:¬ (n:Int)<=57:=om
  simp only[ic257,go_sem,e1',e2',f1,f3,f4,f5,f6];exact .keep _ (.int _ _)
 by_cases f5:(48:Int)<=n
 ·have f6:¬ (n:Int)<=57:=om
  simp only[ic257,go_sem,e1',e2',f1,f3,f5,f6];exact .keep _ (.int _ _)
 ·simp only[ic257,go_sem,e1',e2',f1,f3,f5];exact .keep _ (.int _ _)
theorem hm5 (s:Str)(hs:s.length<2^62)(c:UInt8):PC Tryz.prog EE 264 [.str s,.int .u8 c.toNat] (.str (s.dropWhile (· == c))):=by
 refine av9 fok264 (nZ rfl) fun σ=>?_
 simp only[ic264,go_sem];refine ab1 noT (fun i fr t=>fr=[(0,.str (s.drop i)),(1,.int .u8 c.toNat)]/\t=σ/\s.dropWhile (· == c)=(s.drop i).dropWhile (· == c)) s.length ⟨rfl,rfl,rfl⟩ ?_;rintro i fr t hle ⟨rfl,rfl,hI⟩;by_cases hlt:i<s.length
 ·obtain ⟨x,hx,hget,hdr,_,htk⟩:=ad6 s i hlt;have c1:(0:Int)<(s.length-i:Nat):=om
  have h0:(s.drop i)[0]? = ze x:=by rw[hdr]; rfl
  by_cases e:x=c
  ·subst e;simp only[go_sem,zr,c1,ba7,Int.le_refl,Int.toNat_zero,h0,zy]
   have hsub:cr8 (ze (.int .i64 1)) z6 (.str (s.drop i))=ze (.str (s.drop (i+1))):=by
    rw[hdr];simp[cr8,cd8,ej1];exact qa (by rw[zr]; omega)
   simp only[go_sem,hsub];refine ⟨hlt,?_⟩;rw[hI,hdr,zx,if_pos (by simp)]
  ·have e':¬ (x.toNat:Int)=c.toNat:=fun h=>e (UInt8.toNat_inj.1 om)
   simp only[go_sem,zr,c1,ba7,Int.le_refl,Int.toNat_zero,h0,zy,e'];rw[hI,hdr,zx,if_neg (by simpa using e)]
 ·have hi':i=s.length:=om
  subst hi';rw[zn] at hI ⊢;simp only[go_sem,zw,hI,and_self,qd]
theorem hm6 (s:Str)(hs:s.length<2^62):PC Tryz.prog EE 258 [.str s,.str [48]] (.str (s.dropWhile (· == 48))):=by
 refine av9 fok258 (nZ rfl) fun σ=>?_
 simp only[ic258,go_sem];have ht:=hm5 s hs 48;by_cases h0:s=[]
 ·subst h0;simp only[go_sem,qd,and_self]
 ·have e1:do7 (.str [48]) (.int .i64 0)=ze (.int .u8 (48:UInt8).toNat):=rfl;have e2:((48:UInt8).toNat:Int)<128:=by decide
  simp only[go_sem,h0,e1,e2];refine aa3 fok264 ht ?_;simp only[go_sem,and_self]
def Part.cs (p:Part):List IV:=[.int .u8 p.kind,.str p.s]
theorem jk4 (a b c:Int):orM [a,b,c]=if a≠0 then a else if b≠0 then b else c:=by
 simp only[orM];by_cases h1:a=0<;>by_cases h2:b=0<;>by_cases h3:c=0<;>simp[h1,h2,h3]
theorem ft6 (a b:Part)(ha:a.s.length<2^62)(hb:b.s.length<2^62):PC Tryz.prog EE 217 [.agg (Part.cs a),.agg (Part.cs b)] (.int .i64 (ae8 a b)):=by
 have bp:∀ p:Part,Bnd 0 (.agg (Part.cs p)):=fun p=>.agg _ fun c hc=>by
  simp only[Part.cs,zl,zp,or_false] at hc;rcases hc with rfl|rfl
  ·exact .int _ _
  ·exact .str _
 refine ae5 hE fok217 (nZ rfl) (al3 (bp a) (bp b)) ?_;by_cases h1:a.kind=5
 ·have g1:((a.kind:Nat):Int)=5:=om
  by_cases h2:b.kind=5
  ·have g2:((b.kind:Nat):Int)=5:=om
   simp only[ic217,go_sem,Part.cs,g1,g2]
   first|refine aa3 fok67 (bb3 _ _) ?_|refine aa8 (bb3 _ _) ?_
   simp only[go_sem];refine aa8 (eq6 _ _) ?_;simp only[go_sem];refine aa8 (eq7 _ _) ?_;simp only[go_sem];refine aa8 (iq3 [al7 5 5,al7 a.s.length b.s.length,cm4 a.s b.s] (by simp)) ?_;simp only[go_sem];have e:orM [al7 5 5,al7 a.s.length b.s.length,cm4 a.s b.s]=ae8 a b:=by rw[jk4]; simp only[ae8,h1,h2,and_self,if_true]; rfl
   rw[e]; exact ad1 _ _
  ·have g2:¬ ((b.kind:Nat):Int)=5:=om
   simp only[ic217,go_sem,Part.cs,g1,g2];refine aa8 (eq6 _ _) ?_;simp only[go_sem];refine aa8 (eq7 _ _) ?_;simp only[go_sem];refine aa8 (iq3 [al7 5 b.kind,0,cm4 a.s b.s] (by simp)) ?_;simp only[go_sem];have e:orM [al7 5 b.kind,0,cm4 a.s b.s]=ae8 a b:=by rw[jk4]; simp only[ae8,h1,h2,and_false,if_false]; rfl
   rw[e]; exact ad1 _ _
 ·have g1:¬ ((a.kind:Nat):Int)=5:=om
  simp only[ic217,go_sem,Part.cs,g1];refine aa8 (eq6 _ _) ?_;simp only[go_sem];refine aa8 (eq7 _ _) ?_;simp only[go_sem];refine aa8 (iq3 [al7 a.kind b.kind,0,cm4 a.s b.s] (by simp)) ?_;simp only[go_sem];have e:orM [al7 a.kind b.kind,0,cm4 a.s b.s]=ae8 a b:=by rw[jk4]; simp only[ae8,h1,false_and,if_false]
  rw[e]; exact ad1 _ _
end Go.Id.Tryz
namespace Go.Id.Tryz
open Go Go.Id Go.Proofs Go.Id.Md
def evP (p:Part):List IV:=[.agg (Part.cs p)]
theorem hm7 (s:Str)(hs:s.length<2^62):ev8 Tryz.prog EE (.func (.func 256) [] [.ab5 [.str s]]) ((ab7 s).map evP) (fun _=>True):=by
 intro yid I S σ hown hstab hy hi;refine ⟨fok256.1,?_⟩;refine C_f fok256 (nZ rfl) ?_;simp only[ic256,go_sem];refine ab1 noT (fun j fr t=>∃ (at_:Nat) (tl:Frm),fr=(0,.yield yid)::(1,.ab5 [.str s])::(3,.int .i64 at_)::tl/\σ.next<=t.next/\j<=at_/\at_<=s.length/\I ((ab7 (s.drop at_)).map evP) t) s.length ⟨0,[],rfl,zc _,zc _,z2 _,hi⟩ ?_;rintro j fr t hle ⟨a,tl,rfl,hn,hja,has,hI⟩;by_cases hlt:a<s.length
 ·obtain ⟨b,hb,hget,hdr,_,htk⟩:=ad6 s a hlt;have c1:(a:Int)<s.length:=om
  have c2:(0:Int)<=a:=om
  have w1:=ac4 (i:=a) om;have hk:(4:Int)<=(ad2 b:Int)↔¬ ad2 b<4:=om
  simp only[go_sem,c1,ba7,c2,zu,hget,zy];refine aa8 (eq8 b) ?_;simp only[go_sem,w1];generalize hU:Store.put (Store.put _ t.next _) t.next _=U;have hUn:U.next=t.next+1:=by rw[<- hU]; rfl
  have hUb:U.obj t.next=ze (.cells [.int .u8 (ad2 b),.str []]):=by rw[<- hU]; simp only[aa5,if_true]
  have hUI:∀ i,i<t.next->U.obj i=t.obj i:=fun i hi=>by
   have e:¬ i=t.next:=om
   rw[<- hU]; simp only[aa5,e,if_false]
  clear hU;have hUe:(⟨t.next+1,U.obj⟩:Store)=U:=by rw[<- hUn]
  rw[hUe];have hdl:(s.drop (a+1)).length=s.length-(a+1):=zr;have hrl:=id8 b (s.drop (a+1));generalize hR:(if ad2 b<4 then 0 else fx1 b (s.drop (a+1)))=R
  have hRl:a+1+R<=s.length:=by
   rw[<- hR]; split<;>omega
  refine ab1 noT (fun m fr u=>fr=[(0,.yield yid),(1,.ab5 [.str s]),(3,.int .i64 ((a+1+m:Nat):Int)),(4,.ptr t.next 0),(5,.int .i64 a)]/\t.next+1<=u.next/\u.obj t.next=ze (.cells [.int .u8 (ad2 b),.str []])/\∀ i,i<t.next->u.obj i=t.obj i) R ⟨rfl,om,hUb,hUI⟩ ?_;clear hUe hUn hUb hUI;rintro m fr u hmR ⟨rfl,hUn,hUb,hUI⟩;have w2:=ac4 (i:=a+1+m) om;have d2:(0:Int)<=((a+1+m:Nat):Int):=om
  by_cases hm:m<R
  ·have h4:¬ ad2 b<4:=fun h=>by rw[if_pos h] at hR; omega
   rw[if_neg h4] at hR;obtain ⟨c,hc1,hc2⟩:=id6 (b:=b) (l:=s.drop (a+1)) (m:=m) om;have hc:s[a+1+m]? = ze c:=by rw[<- hc1,qb]
   have k1:(4:Int)<=ad2 b:=om
   have k2:((a+1+m:Nat):Int)<s.length:=om
   have k3:=eq8 c;rw[hc2] at k3;simp only[go_sem,hUb,k1,k2,ba7,d2,zu,hc,zy];refine aa8 k3 ?_;simp only[go_sem,hUb,w2];exact ⟨hm,rfl,om,hUI⟩
  ·have hmR:m=R:=om
   subst hmR;by_cases h4:ad2 b<4
   ·have k1:¬ (4:Int)<=ad2 b:=om
    rw[if_pos h4] at hR;subst hR;have k5:¬ ((ad2 b:Nat):Int)=5:=om
    have hUI2:I ((ab7 (s.drop a)).map evP) ⟨u.next+18,u.obj⟩:=hstab _ _ _ hI (by show t.next<=u.next+18; omega) hUI;rw[hdr] at hUI2;by_cases h0:ad2 b=0
    ·have k0:((ad2 b:Nat):Int)=0:=om
     rw[ey6 h0] at hUI2;have k6:¬ (0:Int)=5:=om
     simp only[go_sem,hUb,k1,k5,k0,k6];exact ⟨om,a+1,_,rfl,om,om,om,hUI2⟩
    ·have k0:¬ ((ad2 b:Nat):Int)=0:=om
     rw[ey8 h0 h4,zv] at hUI2;simp only[go_sem,hUb,k1,k5,k0];refine cs4 hy hUI2 (fun s1 n1 i1=>?_) (fun s1 n1 h1=>?_)
     ·have n1':u.next+18<=s1.next:=n1;simp only[go_sem];exact ⟨om,a+1,_,rfl,om,om,om,i1⟩
     ·have n1':u.next+18<=s1.next:=n1;simp only[go_sem];exact ⟨om,.inr h1⟩
   ·have k1:(4:Int)<=ad2 b:=om
    rw[if_neg h4] at hR
    have key:∀ s1:Store,t.next<=s1.next->(∀ i,i<t.next->s1.obj i=t.obj i)->I (evP ⟨ad2 b,if ad2 b=5 then ((s.drop a).take (m+1)).dropWhile (· == 48) else (s.drop a).take (m+1)⟩::(ab7 (s.drop (a+1+m))).map evP) s1:=fun s1 h1 h2=>by
     have:=hstab _ _ _ hI h1 h2;rw[hdr,ey9 h4,zv,hR,<- hdr,List.drop_drop] at this;exact this
    have hss:cr8 (ze (.int .i64 a)) (ze (.int .i64 ((a+1+m:Nat):Int))) (.str s)=ze (.str ((s.drop a).take (m+1))):=by
     have e1:(0:Int)<=a:=om
     have e2:a<=a+1+m/\a+1+m<=s.length:=om
     simp only[cr8,cd8,ej1,e1,d2,if_true,zu,e2,and_self];rw[List.drop_take];congr 3; omega
    have k0:¬ ((ad2 b:Nat):Int)=0:=om
    have ht:=hm6 ((s.drop a).take (m+1)) (by rw[zq,zr]; omega);by_cases hend:a+1+m<s.length
    ·have k2:((a+1+m:Nat):Int)<s.length:=om
     have hc:s[a+1+m]? = ze s[a+1+m]:=z7 hend;have hne:ad2 s[a+1+m]≠ad2 b:=id7 (l:=s.drop (a+1)) (by rw[hR,qb]; exact hc);have k7:¬ ((ad2 s[a+1+m]:Nat):Int)=ad2 b:=om
     simp only[go_sem,hUb,k1,k2,ba7,d2,zu,hc,zy];refine aa8 (eq8 _) ?_;simp only[go_sem,hUb,k1,k7,hss];by_cases h5:ad2 b=5
     ·have k5:((ad2 b:Nat):Int)=5:=om
      have key5:∀ s1:Store,t.next<=s1.next->(∀ i,i<t.next->s1.obj i=t.obj i)->I ([IV.agg [.int .u8 5,.str (((s.drop a).take (m+1)).dropWhile (· == 48))]]::(ab7 (s.drop (a+1+m))).map evP) s1:=fun s1 h1 h2=>by
       have:=key s1 h1 h2;rw[if_pos h5] at this;simp only[evP,Part.cs,k5] at this;exact this
      have k6:¬ (5:Int)=0:=om
      simp only[go_sem,hUb,k5];refine aa3 fok258 ht ?_;simp only[go_sem,hUb,k5,k6];refine cs4 hy (key5 _ (by simp only[aa7]; omega) fun i hi=>?_) (fun s1 n1 i1=>?_) (fun s1 n1 h1=>?_)
      ·have:¬ i=t.next:=om
       simp only[aa5,this,if_false]; exact hUI i hi
      ·have n1':u.next+18<=s1.next:=n1;simp only[go_sem];exact ⟨om,a+1+m,_,rfl,om,om,om,i1⟩
      ·have n1':u.next+18<=s1.next:=n1;simp only[go_sem];exact ⟨om,.inr h1⟩
     ·have k5:¬ ((ad2 b:Nat):Int)=5:=om
      have key5:∀ s1:Store,t.next<=s1.next->(∀ i,i<t.next->s1.obj i=t.obj i)->I ([IV.agg [.int .u8 (ad2 b),.str ((s.drop a).take (m+1))]]::(ab7 (s.drop (a+1+m))).map evP) s1:=fun s1 h1 h2=>by
       have:=key s1 h1 h2;rw[if_neg h5] at this;exact this
      simp only[go_sem,hUb,k5,k0];refine cs4 hy (key5 _ (by simp only[aa7]; omega) fun i hi=>?_) (fun s1 n1 i1=>?_) (fun s1 n1 h1=>?_)
      ·have:¬ i=t.next:=om
       simp only[aa5,this,if_false]; exact hUI i hi
      ·have n1':u.next+18<=s1.next:=n1;simp only[go_sem];exact ⟨om,a+1+m,_,rfl,om,om,om,i1⟩
      ·have n1':u.next+18<=s1.next:=n1;simp only[go_sem];exact ⟨om,.inr h1⟩
    ·have k2:¬ ((a+1+m:Nat):Int)<s.length:=om
     simp only[go_sem,hUb,k1,k2,hss];by_cases h5:ad2 b=5
     ·have k5:((ad2 b:Nat):Int)=5:=om
      have key5:∀ s1:Store,t.next<=s1.next->(∀ i,i<t.next->s1.obj i=t.obj i)->I ([IV.agg [.int .u8 5,.str (((s.drop a).take (m+1)).dropWhile (· == 48))]]::(ab7 (s.drop (a+1+m))).map evP) s1:=fun s1 h1 h2=>by
       have:=key s1 h1 h2;rw[if_pos h5] at this;simp only[evP,Part.cs,k5] at this;exact this
      have k6:¬ (5:Int)=0:=om
      simp only[go_sem,hUb,k5];refine aa3 fok258 ht ?_;simp only[go_sem,hUb,k5,k6];refine cs4 hy (key5 _ (by simp only[aa7]; omega) fun i hi=>?_) (fun s1 n1 i1=>?_) (fun s1 n1 h1=>?_)
      ·have:¬ i=t.next:=om
       simp only[aa5,this,if_false]; exact hUI i hi
      ·have n1':u.next+18<=s1.next:=n1;simp only[go_sem];exact ⟨om,a+1+m,_,rfl,om,om,om,i1⟩
      ·have n1':u.next+18<=s1.next:=n1;simp only[go_sem];exact ⟨om,.inr h1⟩
     ·have k5:¬ ((ad2 b:Nat):Int)=5:=om
      have key5:∀ s1:Store,t.next<=s1.next->(∀ i,i<t.next->s1.obj i=t.obj i)->I ([IV.agg [.int .u8 (ad2 b),.str ((s.drop a).take (m+1))]]::(ab7 (s.drop (a+1+m))).map evP) s1:=fun s1 h1 h2=>by
       have:=key s1 h1 h2;rw[if_neg h5] at this;exact this
      simp only[go_sem,hUb,k5,k0];refine cs4 hy (key5 _ (by simp only[aa7]; omega) fun i hi=>?_) (fun s1 n1 i1=>?_) (fun s1 n1 h1=>?_)
      ·have:¬ i=t.next:=om
       simp only[aa5,this,if_false]; exact hUI i hi
      ·have n1':u.next+18<=s1.next:=n1;simp only[go_sem];exact ⟨om,a+1+m,_,rfl,om,om,om,i1⟩
      ·have n1':u.next+18<=s1.next:=n1;simp only[go_sem];exact ⟨om,.inr h1⟩
 ·have ha:a=s.length:=om
  subst ha;have c1:¬ (s.length:Int)<s.length:=om
  rw[zn] at hI;simp only[go_sem,c1];exact ⟨hn,.inl hI⟩
end Go.Id.Tryz
namespace Go.Id.Tryz
open Go Go.Id Go.Proofs Go.Id.Md
def idxOf (n:Int):List Int->Nat->Int
 | [],_=>-1
 | a::l,i=>if n=a then Int.ofNat i else idxOf n l (i+1)
theorem dn1 (n:Int):∀ (l:List Int) (i:Nat),(0<=idxOf n l i↔n∈l):=by
 intro l
 induction l with
 | nil=>intro i; simp[idxOf]
 | cons a l ih=>
  intro i;simp only[idxOf];split
  ·rename_i e; subst e; simp
  ·rename_i e; rw[ih]; simp[e]
theorem eq9 (l:List Int)(n:Int)(hl:l.length<2^40):PC Tryz.prog EE 145 [.aa4 (l.map Md.ae4),.int .i64 n] (.int .i64 (idxOf n l 0)):=by
 refine av9 fok145 (nZ rfl) fun σ=>?_
 simp only[ic145,go_sem];refine ab1 noT (fun i fr s=>fr=[(0,.aa4 (l.map Md.ae4)),(1,.int .i64 n),(7,.int .i64 l.length),(8,.int .i64 i)]/\s=σ/\idxOf n l 0=idxOf n (l.drop i) i) l.length ⟨rfl,rfl,rfl⟩ ?_;rintro i fr s hle ⟨rfl,rfl,hI⟩;by_cases hlt:i<l.length
 ·obtain ⟨x,hx,_,hdr,hget,htk⟩:=ad6 l i hlt;have c1:(i:Int)<l.length:=om
  have c2:(0:Int)<=i:=om
  have w1:=ac4 (i:=i) om;rw[hdr,idxOf] at hI;by_cases e:n=x
  ·rw[if_pos e] at hI;subst e;have hI:idxOf n l 0=(i:Int):=hI;simp only[go_sem,c1,c2,hget,Md.ae4,hI,and_self]
  ·rw[if_neg e] at hI;simp only[go_sem,c1,c2,hget,Md.ae4,e,w1];exact ⟨hlt,hI⟩
 ·have hi':i=l.length:=om
  subst hi';have c1:¬ (l.length:Int)<l.length:=om
  rw[zn,idxOf] at hI;simp only[go_sem,c1,hI,and_self]
theorem ef4 (l:List Int)(n:Int)(hl:l.length<2^40):PC Tryz.prog EE 84 [.aa4 (l.map Md.ae4),.int .i64 n] (.bool (decide (n∈l))):=by
 refine av9 fok84 (nZ rfl) fun σ=>?_
 simp only[ic84,go_sem];refine aa3 fok145 (eq9 l n hl) ?_
 have e:decide (0<=idxOf n l 0)=decide (n∈l):=by
  by_cases h:n∈l
  ·simp[h,(dn1 n l 0).2 h]
  ·rw[decide_eq_false h,decide_eq_false (fun x=>h ((dn1 n l 0).1 x))]
 simp only[go_sem,e,and_self]
def sE (k:Str):IV×IV:=(.str k,.agg [])
theorem hm8 (l:List Str)(k:Str):fg6 2 (.str k) (.agg []) (l.map sE)=ze ((au5 l k).map sE):=by
 have go:∀ l:List Str,fg6 2 (.str k) (.agg []) (l.map sE)=ze ((if k∈l then l else l++[k]).map sE):=by
  intro l
  induction l with
  | nil=>rfl
  | cons a l ih=>
   simp only[zv,sE,fg6,ev7] at ih ⊢;by_cases h:k=a
   ·subst h; simp[sE]
   ·simp only[h,decide_false,zl,false_or] at ih ⊢;rw[ih];split<;>simp[sE]
 exact go l
theorem du4 {σ:Store}{mid:Nat}{l:List Str}(h:σ.obj mid=ze (.map (l.map sE)))(k:Str):aw8 σ 2 (.map mid) (.str k) (.agg [])=ze (σ.put mid (.map ((au5 l k).map sE))):=by
 simp only[aw8,h,hm8,zy]
theorem gm7 {l:List Str}(h:l.Nodup)(k:Str):(au5 l k).Nodup:=by
 unfold au5;split
 ·exact h
 ·rename_i hk;refine List.nodup_append.2 ⟨h,by simp,fun a ha b hb e=>?_⟩;cases z4.1 hb;exact hk (e▸ha)
theorem co5:∀ (ks:List Str) {l:List Str},l.Nodup->(ks.foldl au5 l).Nodup
 | [],_,h=>h
 | k::ks,_,h=>co5 ks (gm7 h k)
theorem iq4 (p:aa2):(cy6 p).Nodup:=co5 _ (co5 _ (by simp))
theorem ft7 (p:aa2)(hp:p.Fit):PC Tryz.prog EE 83 [.agg p.cs] (.an9 ((cy6 p).map sE)):=by
 have f1:=hp.ax2.1;have f2:=hp.files.1;refine ae5 hE fok83 (nZ rfl) (fun a ha=>by cases z4.1 ha; exact .agg _ (ah7 p)) ?_;simp only[ic83,go_sem,af4,aa2.cs,bi7];rw[du4 (l:=[]) (by simp only[aa5,if_true]; rfl)];simp only[go_sem];refine ab1 noT (fun i fr s=>fr=[(1,.ab5 p.cs),(3,.map 0),(14,deps p.provides),(15,.int .i64 p.provides.length),(16,.int .i64 i)]/\1<=s.next/\s.obj 0=ze (.map ((((p.provides.take i).map (·.name)).foldl au5 [p.name]).map sE))) p.provides.length ⟨rfl,by simp,by simp only[aa5,if_true]; rfl⟩ ?_;rintro i fr s hle ⟨rfl,hn,ho⟩;by_cases hlt:i<p.provides.length
 ·obtain ⟨x,hx,_,hdr,hget,htk⟩:=ad6 p.provides i hlt;have c1:(i:Int)<p.provides.length:=om
  have c2:(0:Int)<=i:=om
  have c3:¬ 0=s.next:=om
  have w1:=ac4 (i:=i) om;simp only[go_sem,c1,c2,hget,Dep.cs];rw[du4 (l:=((p.provides.take i).map (·.name)).foldl au5 [p.name]) (by simp only[aa5,c3,if_false]; exact ho)];simp only[go_sem,w1];refine ⟨hlt,?_⟩;rw[htk,zg,qe]
  first|rfl|(simp only[aa5,if_true]; rfl)
 have hi':i=p.provides.length:=om
 subst hi';have c1:¬ (p.provides.length:Int)<p.provides.length:=om
 rw[zm] at ho;simp only[go_sem,c1,aa2.cs];refine ab1 noT (fun i fr s=>fr=[(3,.map 0),(26,strs p.files),(27,.int .i64 p.files.length),(28,.int .i64 i)]/\s.obj 0=ze (.map (((p.files.take i).foldl au5 ((p.provides.map (·.name)).foldl au5 [p.name])).map sE))) p.files.length ⟨rfl,ho⟩ ?_;rintro i fr s hle ⟨rfl,ho⟩;by_cases hlt:i<p.files.length
 ·obtain ⟨x,hx,_,hdr,hget,htk⟩:=ad6 p.files i hlt;have c1:(i:Int)<p.files.length:=om
  have c2:(0:Int)<=i:=om
  have w1:=ac4 (i:=i) om;simp only[go_sem,c1,c2,hget,bs8];rw[du4 ho];simp only[go_sem,w1];refine ⟨hlt,?_⟩;rw[htk,qe]
  first|rfl|(simp only[aa5,if_true]; rfl)
 have hi':i=p.files.length:=om
 subst hi';have c1:¬ (p.files.length:Int)<p.files.length:=om
 rw[zm] at ho;simp only[go_sem,c1];refine .map 0 _ _ _ (zi _) ho rfl (z9.refl _) ⟨?_,.str,fun e he=>?_⟩ (fun i hi=>?_) (fun i hi=>?_)
 ·have:((cy6 p).map sE).map (·.1)=(cy6 p).map IV.str:=by simp[sE]
  rw[this];exact z8.map _ (fun a b hab e=>hab (by cases e; rfl)) (iq4 p)
 ·obtain ⟨k,_,rfl⟩:=zb.1 he;trivial
 ·exact .keep _ (by
   obtain ⟨k,_,e⟩:=zb.1 (ae1 (.undef,.undef) hi);rw[<- e]; exact .str _)
 ·exact .keep _ (by
   obtain ⟨k,_,e⟩:=zb.1 (ae1 (.undef,.undef) hi);rw[<- e]; exact .agg _ fun c hc=>by cases hc)
end Go.Id.Tryz
namespace Go.Id.Tryz
open Go Go.Id Go.Proofs Go.Id.Md
theorem du5 (nm:Nms):Bnd 0 (.an9 (nmV nm)):=by
 refine .an9 _ (fun e he=>?_) (fun e he=>?_)<;>(simp only[nmV,zb] at he; obtain ⟨t,_,rfl⟩:=he)
 ·exact .str _
 ·refine .aa4 _ fun x hx c hc=>?_
  obtain ⟨n,_,rfl⟩:=zb.1 hx
  cases hc with
  | head=>exact .int _ _
  | tail _ h=>cases h
theorem hm9 (l:List az3):Bnd 0 (.aa4 (l.map az3.cs)):=.aa4 _ fun e he c hc=>by
 obtain ⟨r,_,rfl⟩:=zb.1 he; exact fb6 r c hc
theorem ay1 (p:Pool):Bnd 0 p.v:=.ab5 _ fun c hc=>by
 simp only[zl,zp,or_false] at hc;rcases hc with rfl|rfl|rfl
 ·exact hm9 _
 ·exact .int _ _
 ·exact du5 _
theorem da2 (l:List az3)(n:Int):PC Tryz.prog EE 87 [.aa4 (l.map az3.cs),.int .i64 n] (.bool (decide (0<=n)&&decide (n<l.length))):=by
 refine av9 fok87 (nZ rfl) fun σ=>?_
 by_cases h:0<=n
 ·simp only[ic87,go_sem,h,and_self]
 ·simp only[ic87,go_sem,h,and_self]
theorem bd4 (p:Pool):PC Tryz.prog EE 36 [p.v] (.int .i64 p.rows.length):=by
 refine av9 fok36 (nZ rfl) fun σ=>?_
 simp only[ic36,go_sem,Pool.v,and_self]
theorem az2 (p:Pool):PC Tryz.prog EE 33 [p.v] (.int .i64 p.inst):=by
 refine av9 fok33 (nZ rfl) fun σ=>?_
 simp only[ic33,go_sem,Pool.v,and_self]
theorem hn6 (r:az3):r.cs.take 15=r.pkg.cs:=rfl
theorem be4 (p:Pool)(n:Nat)(h:n<p.rows.length)(hf:p.rows[n].pkg.Fit):PC Tryz.prog EE 37 [p.v,.int .i64 n] (.tuple [.agg p.rows[n].pkg.cs,.int .i64 0]):=by
 refine ae5 hE fok37 (nZ rfl) (al3 (ay1 p) (.int _ _)) ?_;have c1:(n:Int)<p.rows.length:=om
 have c2:(0:Int)<=n:=om
 have hg:(p.rows.map az3.cs).getD n []=p.rows[n].cs:=by simp[zf,h]
 have h15:∀ r:az3,(15<=r.cs.length)=True:=fun r=>by rw[bd3]; simp
 simp only[ic37,go_sem,Pool.v];refine aa3 fok87 (da2 p.rows n) ?_;simp only[go_sem,c1,c2,hg,bd3,hn6];refine aa3 fok75 (dm9 _ hf) ?_;simp only[go_sem,af8,ah2,af4];exact .keep _ (.tuple _ (al3 (am6 _) (.int _ _)))
end Go.Id.Tryz
namespace Go.Id.Tryz
open Go Go.Id Go.Proofs Go.Id.Md
structure MS (s:Store) (tag:Nat->Nat) (c mid:Nat) (L:NmL) (B:Nat):Prop where
 map:s.obj mid=ze (.map (mEs L))
 row:∀ t∈L,s.obj t.2.2=ze (.row (t.2.1.map Md.ae4).flatten)/\t.2.2<s.next/\t.2.1.length<=B
 cr1:∀ t∈L,tag t.2.2=c
 ids:(L.map (·.2.2)).Nodup
 keys:(L.map (·.1)).Nodup
 lt:mid<s.next
 ho5:tag mid=c
theorem MS.keep {s s':Store}{tag tag':Nat->Nat}{c mid:Nat}{L:NmL}{B B':Nat}(h:MS s tag c mid L B)(hB:B<=B')(hn:s.next<=s'.next)(ho:∀ i,i<s.next->tag i=c->s'.obj i=s.obj i)(ht:∀ i,i<s.next->tag' i=tag i):MS s' tag' c mid L B' where
 map:=by rw[ho _ h.lt h.ho5]; exact h.map
 row:=fun t m=>⟨by rw[ho _ (h.row t m).2.1 (h.cr1 t m)]; exact (h.row t m).1,by have:=(h.row t m).2.1; omega,by have:=(h.row t m).2.2; omega⟩
 cr1:=fun t m=>by rw[ht _ (h.row t m).2.1]; exact h.cr1 t m
 ids:=h.ids
 keys:=h.keys
 lt:=by have:=h.lt; omega
 ho5:=by rw[ht _ h.lt]; exact h.ho5
def er1 (tag:Nat->Nat)(c nid:Nat):Nat->Nat:=fun i=>if i=nid then c else tag i
theorem ar7 {tag:Nat->Nat}{c nid n:Nat}(h:n<=nid):∀ i,i<n->er1 tag c nid i=tag i:=fun i hi=>by
 unfold er1; rw[if_neg om]
theorem MS.cur {s:Store}{tag:Nat->Nat}{c mid:Nat}{L:NmL}{B:Nat}(h:MS s tag c mid L B)(k:Str)(m:Nat)(hm:s.next<=m):Grow ⟨m,s.obj⟩ (cy2 L k) 1 ((ce3 L k).map Md.ae4)/\(ce3 L k).length<=B:=by
 rcases ca6 L k with ⟨h1,h2⟩|⟨t,ht,_,h1,h2⟩
 ·rw[h1,h2]; exact ⟨.inl ⟨rfl,rfl⟩,z2 _⟩
 ·rw[h1,h2]; exact ⟨.inr ⟨t.2.2,by rw[za],(h.row t ht).1,by have:=(h.row t ht).2.1; show t.2.2<m; omega⟩,(h.row t ht).2.2⟩
theorem MS.upd {s:Store}{tag:Nat->Nat}{c mid:Nat}{L:NmL}{B:Nat}(h:MS s tag c mid L B)(k:Str)(n:Int)(m nid:Nat)(hm:s.next<=m)(hnew:s.next<=nid)(hb:B<2^30) :
  ∃ s1,as5 ⟨m,s.obj⟩ nid 1 (cy2 L k) (.aa4 [[.int .i64 n]])=ze (.slice nid 0 ((ce3 L k).length+1) 1,s1)/\s1.next=m/\s1.obj mid=ze (.map (mEs L))/\(∀ i o,i<s.next->s.obj i=ze o->(∀ cs,o≠.row cs)->s1.obj i=ze o) /\
   ∀ nx,nid<nx->MS ⟨nx,(s1.put mid (.map (mEs (bb8 L k n nid)))).obj⟩ (er1 tag c nid) c mid (bb8 L k n nid) (B+1)/\∀ i,i<s.next->tag i≠c->(s1.put mid (.map (mEs (bb8 L k n nid)))).obj i=s.obj i:=by
 obtain ⟨hg,hlen⟩:=h.cur k m hm;have hap:=am4 (nid:=nid) (e:=[.int .i64 n]) hg (bx4 _) ⟨rfl,rfl⟩ (by rw[za]; omega);rw[za] at hap;have hlt:=h.lt;have hmid:¬ mid=nid:=om
 have kother:∀ i,(∀ t∈L,t.1=k->t.2.2≠i)->(ag2 (cy2 L k) ⟨m,s.obj⟩).obj i=s.obj i:=by
  intro i hne;rcases ca6 L k with ⟨h1,_⟩|⟨t,ht,hk,h1,_⟩
  ·rw[h1]; rfl
  ·rw[h1];show (if i=t.2.2 then z6 else s.obj i)=_;rw[if_neg (fun e=>hne t ht hk e.symm)]
 have hrow_ne_mid:∀ i cs,s.obj i=ze (.row cs)->¬ i=mid:=fun i cs hi e=>by subst e; rw[h.map] at hi; cases hi
 refine ⟨_,hap,by rw[aa7,ac9],?_,?_,fun nx hnx=>⟨?_,?_⟩⟩
 ·rw[aa5,if_neg hmid]; exact ah3 hg mid _ h.map (fun _ e=>by cases e)
 ·intro i o hi ho hr;rw[aa5,if_neg om]; exact ah3 hg i _ ho hr
 ·exact {
   map:=by
    show (if mid=mid then _ else _)=_;rw[if_pos rfl]
   row:=by
    intro t ht;rcases dr7 h.keys t ht with ⟨h1,h2⟩|rfl
    ·obtain ⟨r1,r2,r3⟩:=h.row t h1;refine ⟨?_,by show t.2.2<nx; omega,om⟩;show (if t.2.2=mid then _ else if t.2.2=nid then _ else (ag2 (cy2 L k) ⟨m,s.obj⟩).obj t.2.2)=_;rw[if_neg (hrow_ne_mid _ _ r1),if_neg om,kother _ fun u hu hk e=>h2 (by rw[<- gf6 h.keys h.ids u hu t h1 e]; exact hk)];exact r1
    ·refine ⟨?_,hnx,?_⟩
     ·show (if nid=mid then _ else if nid=nid then _ else _)=_;rw[if_neg (fun e=>hmid e.symm),if_pos rfl,zg];rfl
     ·show (ce3 L k++[n]).length<=B+1;rw[zd]; simp; exact hlen
   cr1:=by
    intro t ht;rcases dr7 h.keys t ht with ⟨h1,h2⟩|rfl
    ·rw[ar7 hnew _ (h.row t h1).2.1]; exact h.cr1 t h1
    ·unfold er1; rw[if_pos rfl]
   ids:=(gf5 L h.ids (fun hm=>by
    obtain ⟨t,ht,e⟩:=zb.1 hm;have:=(h.row t ht).2.1;have e':t.2.2=nid:=e;omega)).1
   keys:=(ex2 L h.keys).1
   lt:=by show mid<nx; omega
   ho5:=by rw[ar7 hnew _ h.lt]; exact h.ho5 }
 ·intro i hi hc;show (if i=mid then _ else if i=nid then _ else (ag2 (cy2 L k) ⟨m,s.obj⟩).obj i)=_;rw[if_neg (fun e=>hc (by rw[e]; exact h.ho5)),if_neg om,kother _ fun t ht _ e=>hc (by rw[<- e]; exact h.cr1 t ht)]
theorem MS.frz {s:Store}{tag:Nat->Nat}{c mid:Nat}{L:NmL}{B:Nat}(h:MS s tag c mid L B){nm:Nms}(hp:(ba9 L).Perm nm):cs9 s 0 (.map mid) (.an9 (nmV nm)):=by
 have hat:∀ i,i<(mEs L).length->∃ t∈L,(mEs L).getD i (.undef,.undef)=(.str t.1,.slice t.2.2 0 t.2.1.length 1)/\(nmV (ba9 L)).getD i (.undef,.undef)=(.str t.1,.aa4 (t.2.1.map Md.ae4)):=by
  intro i hi;have hi':i<L.length:=by simpa [mEs] using hi
  exact ⟨L[i],zs hi',by simp[mEs,zf,hi'],by simp[nmV,ba9,zf,hi']⟩
 have hkn:KN nm:=KN.perm (nm:=ba9 L) (by show ((ba9 L).map (·.1)).Nodup; unfold ba9; rw[zz]; exact h.keys) hp;refine .map mid (mEs L) (nmV (ba9 L)) (nmV nm) (zi _) h.map (by simp[nmV,ba9,mEs]) (hp.map _) ⟨?_,.str,fun e he=>?_⟩ (fun i hi=>?_) (fun i hi=>?_)
 ·have:(nmV nm).map (·.1)=(nm.map (·.1)).map IV.str:=by simp[nmV]
  rw[this];exact z8.map _ (fun a b hab e=>hab (by cases e; rfl)) hkn
 ·simp only[nmV,zb] at he;obtain ⟨t,_,rfl⟩:=he;trivial
 ·obtain ⟨t,ht,e1,e2⟩:=hat i hi;rw[e1,e2]; exact bi4 _
 ·obtain ⟨t,ht,e1,e2⟩:=hat i hi;rw[e1,e2];obtain ⟨r1,r2,_⟩:=h.row t ht;have hg:Grow s (.slice t.2.2 0 t.2.1.length 1) 1 (t.2.1.map Md.ae4):=.inr ⟨t.2.2,by rw[za],r1,r2⟩;refine hg.frz (fun x hx=>(bx4 _ x hx).1) (fun _ _=>zi _) fun e he c hc=>?_
  obtain ⟨n,_,rfl⟩:=zb.1 he
  cases hc with
  | head=>exact .int _ _
  | tail _ h=>cases h
structure IS (s:Store) (pp m1 m2 m3:Nat) (all:List aa2) (rv:IV) (L1 L2 L3:NmL) (tag:Nat->Nat) (B:Nat):Prop where
 cell:s.obj pp=ze (.cells [rv,.map m1,.map m2,.map m3])
 ltp:pp<s.next
 grow:Grow s rv 15 (all.map aa2.cs)
 cr1:∀ id n,rv=.slice id 0 n 15->tag id=0
 m1:MS s tag 1 m1 L1 B
 m2:MS s tag 2 m2 L2 B
 m3:MS s tag 3 m3 L3 B
 ef7:tag pp=4
theorem IS.mono {s s':Store}{pp m1 m2 m3:Nat}{all:List aa2}{rv:IV}{L1 L2 L3:NmL}{tag:Nat->Nat}{B B':Nat}(h:IS s pp m1 m2 m3 all rv L1 L2 L3 tag B)(hB:B<=B')(hn:s.next<=s'.next)(ho:∀ i,i<s.next->s'.obj i=s.obj i):IS s' pp m1 m2 m3 all rv L1 L2 L3 tag B' where
 cell:=by rw[ho _ h.ltp]; exact h.cell
 ltp:=by have:=h.ltp; omega
 grow:=h.grow.mono hn fun id _ hid=>ho id hid
 cr1:=h.cr1
 m1:=h.m1.keep hB hn (fun i hi _=>ho i hi) fun _ _=>rfl
 m2:=h.m2.keep hB hn (fun i hi _=>ho i hi) fun _ _=>rfl
 m3:=h.m3.keep hB hn (fun i hi _=>ho i hi) fun _ _=>rfl
 ef7:=h.ef7
theorem du6 {s s':Store}{rv:IV}{es:List (List IV)}{tag:Nat->Nat}(h:Grow s rv 15 es)(ht:∀ id n,rv=.slice id 0 n 15->tag id=0)(hn:s.next<=s'.next)(ho:∀ i,i<s.next->tag i=0->s'.obj i=s.obj i):Grow s' rv 15 es :=
 h.mono hn fun id hv hid=>ho id hid (ht id _ hv)
theorem du7 {s:Store}{rv:IV}{es:List (List IV)}{tag:Nat->Nat}{c nid:Nat}(h:Grow s rv 15 es)(ht:∀ id n,rv=.slice id 0 n 15->tag id=0)(hn:s.next<=nid):∀ id n,rv=.slice id 0 n 15->er1 tag c nid id=0:=fun id n hv=>by
 rcases h with ⟨h1,_⟩|⟨id',h1,_,hlt⟩
 ·rw[h1] at hv; cases hv
 ·have e:id'=id:=by rw[h1] at hv; cases hv; rfl
  subst e;rw[ar7 hn _ hlt]; exact ht _ _ hv
theorem IS.of1 {s s':Store}{pp m1 m2 m3 nid:Nat}{all:List aa2}{rv:IV}{L1 L2 L3 L':NmL}{tag:Nat->Nat}{B:Nat}(h:IS s pp m1 m2 m3 all rv L1 L2 L3 tag B)(hn:s.next<=s'.next)(hnid:s.next<=nid)(hm:MS s' (er1 tag 1 nid) 1 m1 L' (B+1))(ho:∀ i,i<s.next->tag i≠1->s'.obj i=s.obj i):IS s' pp m1 m2 m3 all rv L' L2 L3 (er1 tag 1 nid) (B+1) where
 cell:=by rw[ho _ h.ltp (by rw[h.ef7]; decide)]; exact h.cell
 ltp:=by have:=h.ltp; omega
 grow:=du6 h.grow h.cr1 hn fun i hi e=>ho i hi (by rw[e]; decide)
 cr1:=du7 h.grow h.cr1 hnid
 m1:=hm
 m2:=h.m2.keep (zo _) hn (fun i hi e=>ho i hi (by rw[e]; decide)) (ar7 hnid)
 m3:=h.m3.keep (zo _) hn (fun i hi e=>ho i hi (by rw[e]; decide)) (ar7 hnid)
 ef7:=by rw[ar7 hnid _ h.ltp]; exact h.ef7
theorem IS.of2 {s s':Store}{pp m1 m2 m3 nid:Nat}{all:List aa2}{rv:IV}{L1 L2 L3 L':NmL}{tag:Nat->Nat}{B:Nat}(h:IS s pp m1 m2 m3 all rv L1 L2 L3 tag B)(hn:s.next<=s'.next)(hnid:s.next<=nid)(hm:MS s' (er1 tag 2 nid) 2 m2 L' (B+1))(ho:∀ i,i<s.next->tag i≠2->s'.obj i=s.obj i):IS s' pp m1 m2 m3 all rv L1 L' L3 (er1 tag 2 nid) (B+1) where
 cell:=by rw[ho _ h.ltp (by rw[h.ef7]; decide)]; exact h.cell
 ltp:=by have:=h.ltp; omega
 grow:=du6 h.grow h.cr1 hn fun i hi e=>ho i hi (by rw[e]; decide)
 cr1:=du7 h.grow h.cr1 hnid
 m1:=h.m1.keep (zo _) hn (fun i hi e=>ho i hi (by rw[e]; decide)) (ar7 hnid)
 m2:=hm
 m3:=h.m3.keep (zo _) hn (fun i hi e=>ho i hi (by rw[e]; decide)) (ar7 hnid)
 ef7:=by rw[ar7 hnid _ h.ltp]; exact h.ef7
theorem IS.of3 {s s':Store}{pp m1 m2 m3 nid:Nat}{all:List aa2}{rv:IV}{L1 L2 L3 L':NmL}{tag:Nat->Nat}{B:Nat}(h:IS s pp m1 m2 m3 all rv L1 L2 L3 tag B)(hn:s.next<=s'.next)(hnid:s.next<=nid)(hm:MS s' (er1 tag 3 nid) 3 m3 L' (B+1))(ho:∀ i,i<s.next->tag i≠3->s'.obj i=s.obj i):IS s' pp m1 m2 m3 all rv L1 L2 L' (er1 tag 3 nid) (B+1) where
 cell:=by rw[ho _ h.ltp (by rw[h.ef7]; decide)]; exact h.cell
 ltp:=by have:=h.ltp; omega
 grow:=du6 h.grow h.cr1 hn fun i hi e=>ho i hi (by rw[e]; decide)
 cr1:=du7 h.grow h.cr1 hnid
 m1:=h.m1.keep (zo _) hn (fun i hi e=>ho i hi (by rw[e]; decide)) (ar7 hnid)
 m2:=h.m2.keep (zo _) hn (fun i hi e=>ho i hi (by rw[e]; decide)) (ar7 hnid)
 m3:=hm
 ef7:=by rw[ar7 hnid _ h.ltp]; exact h.ef7
theorem bb4 (l:List aa2):∀ e∈l.map aa2.cs,e.length=15/\e.all IV.leaf=true:=fun e he=>by
 obtain ⟨x,_,rfl⟩:=zb.1 he;exact ⟨af8 x,af4 x⟩
theorem IS.push {s:Store}{pp m1 m2 m3:Nat}{all:List aa2}{rv:IV}{L1 L2 L3:NmL}{tag:Nat->Nat}{B:Nat}(h:IS s pp m1 m2 m3 all rv L1 L2 L3 tag B)(x:aa2)(m nid:Nat)(hm:s.next<=m)(hnew:s.next<=nid)(hb:all.length<2^30) :
  ∃ s1,as5 ⟨m,s.obj⟩ nid 15 rv (.aa4 [x.cs])=ze (.slice nid 0 (all.length+1) 15,s1)/\s1.next=m/\s1.obj pp=s.obj pp/\(∀ i o,i<s.next->s.obj i=ze o->(∀ cs,o≠.row cs)->s1.obj i=ze o) /\
   ∀ nx,nid<nx->IS ⟨nx,(s1.put pp (.cells [.slice nid 0 (all.length+1) 15,.map m1,.map m2,.map m3])).obj⟩ pp m1 m2 m3 (all++[x]) (.slice nid 0 (all.length+1) 15) L1 L2 L3 (er1 tag 0 nid) B:=by
 have hg:Grow ⟨m,s.obj⟩ rv 15 (all.map aa2.cs):=Grow.mono (σ:=s) h.grow hm fun _ _ _=>rfl
 have hap:=am4 (nid:=nid) (e:=x.cs) hg (bb4 all) ⟨af8 x,af4 x⟩ (by rw[za]; omega);rw[za] at hap;have hlt:=h.ltp;have hpp:¬ pp=nid:=om
 have kp:=ah3 hg pp _ h.cell (fun _ e=>by cases e)
 have kk:∀ i,i<s.next->tag i≠0->tag i≠4->((ag2 rv ⟨m,s.obj⟩).put nid (.row (all.map aa2.cs++[x.cs]).flatten) |>.put pp (.cells [.slice nid 0 (all.length+1) 15,.map m1,.map m2,.map m3])).obj i=s.obj i:=by
  intro i hi h0 h4;show (if i=pp then _ else if i=nid then _ else (ag2 rv ⟨m,s.obj⟩).obj i)=_;rw[if_neg (fun e=>h4 (by rw[e]; exact h.ef7)),if_neg om];rcases h.grow with ⟨hv,_⟩|⟨id,hv,ho,hl⟩
  ·rw[hv]; rfl
  ·have ht:=h.cr1 id _ hv;rw[hv];show (if i=id then z6 else s.obj i)=_;rw[if_neg (fun e=>h0 (by rw[e]; exact ht))]
 refine ⟨_,hap,by rw[aa7,ac9],by rw[aa5,if_neg hpp,kp,h.cell],?_,fun nx hnx=>?_⟩
 ·intro i o hi ho hr;rw[aa5,if_neg om]; exact ah3 hg i _ ho hr
 ·exact {
   cell:=by
    show (if pp=pp then _ else _)=_;rw[if_pos rfl]
   ltp:=by show pp<nx; omega
   grow:=by
    refine .inr ⟨nid,by rw[zg,zd,za]; rfl,?_,hnx⟩;show (if nid=pp then _ else if nid=nid then _ else _)=_;rw[if_neg (fun e=>hpp e.symm),if_pos rfl,zg]; rfl
   cr1:=fun id n hv=>by cases hv; unfold er1; rw[if_pos rfl]
   m1:=h.m1.keep (zc _) (by show s.next<=nx; omega) (fun i hi e=>kk i hi (by rw[e]; decide) (by rw[e]; decide)) (ar7 hnew)
   m2:=h.m2.keep (zc _) (by show s.next<=nx; omega) (fun i hi e=>kk i hi (by rw[e]; decide) (by rw[e]; decide)) (ar7 hnew)
   m3:=h.m3.keep (zc _) (by show s.next<=nx; omega) (fun i hi e=>kk i hi (by rw[e]; decide) (by rw[e]; decide)) (ar7 hnew)
   ef7:=by rw[ar7 hnew _ h.ltp]; exact h.ef7 }
theorem IS.frz {s:Store}{pp m1 m2 m3:Nat}{all:List aa2}{rv:IV}{L1 L2 L3:NmL}{tag:Nat->Nat}{B:Nat}(h:IS s pp m1 m2 m3 all rv L1 L2 L3 tag B){x:Index}(h0:x.all=all)(h1:(ba9 L1).Perm x.ax2)(h2:(ba9 L2).Perm x.names)(h3:(ba9 L3).Perm x.over):cs9 s 0 (.ptr pp 0) x.v:=by
 subst h0;refine .ptr pp 0 _ _ (zi _) (.inl h.cell) (zc _) fun j hj=>?_
 have hj3:j=0\/j=1\/j=2\/j=3:=by simp only[zj,zw] at hj; omega
 rcases hj3 with rfl|rfl|rfl|rfl
 ·refine h.grow.frz (fun x hx=>(bb4 _ x hx).1) (fun _ _=>zi _) fun e he c hc=>?_
  obtain ⟨r,_,rfl⟩:=zb.1 he;exact ah7 r c hc
 ·exact h.m1.frz h1
 ·exact h.m2.frz h2
 ·exact h.m3.frz h3
theorem MS.gm8 {s s':Store}{tag:Nat->Nat}{c mid:Nat}{L:NmL}{B B':Nat}(h:MS s tag c mid L B)(hB:B<=B')(hn:s.next<=s'.next)(ho:∀ i o,i<s.next->s.obj i=ze o->(∀ l c,o≠.ar8 l c)->s'.obj i=ze o):MS s' tag c mid L B' where
 map:=ho _ _ h.lt h.map (fun _ _ e=>by cases e)
 row:=fun t m=>⟨ho _ _ (h.row t m).2.1 (h.row t m).1 (fun _ _ e=>by cases e),by have:=(h.row t m).2.1; omega,by have:=(h.row t m).2.2; omega⟩
 cr1:=h.cr1
 ids:=h.ids
 keys:=h.keys
 lt:=by have:=h.lt; omega
 ho5:=h.ho5
theorem IS.gm8 {s s':Store}{pp m1 m2 m3:Nat}{all:List aa2}{rv:IV}{L1 L2 L3:NmL}{tag:Nat->Nat}{B B':Nat}(h:IS s pp m1 m2 m3 all rv L1 L2 L3 tag B)(hB:B<=B')(hn:s.next<=s'.next)(ho:∀ i o,i<s.next->s.obj i=ze o->(∀ l c,o≠.ar8 l c)->s'.obj i=ze o):IS s' pp m1 m2 m3 all rv L1 L2 L3 tag B' where
 cell:=ho _ _ h.ltp h.cell (fun _ _ e=>by cases e)
 ltp:=by have:=h.ltp; omega
 grow:=by
  rcases h.grow with h0|⟨id,hv,hr,hid⟩
  ·exact .inl h0
  ·exact .inr ⟨id,hv,ho _ _ hid hr (fun _ _ e=>by cases e),om⟩
 cr1:=h.cr1
 m1:=h.m1.gm8 hB hn ho
 m2:=h.m2.gm8 hB hn ho
 m3:=h.m3.gm8 hB hn ho
 ef7:=h.ef7
theorem ef5 {α β:Type}(f:α->β):∀ (l:List α) (k:Nat),(l.map f).eraseIdx k=(l.eraseIdx k).map f
 | [],_=>rfl
 | _::_,0=>rfl
 | a::l,k+1=>by simp[ef5 f l k]
theorem dn2 {α:Type}:∀ (l:List α) (k:Nat) (h:k<l.length),l.Perm (l[k]::l.eraseIdx k)
 | [],k,h=>by simp at h
 | a::l,0,_=>.refl _
 | a::l,k+1,h=>((dn2 l k (by simpa using h)).cons a).trans (.swap _ _ _)
theorem jr1 {s:Store}{id:Nat}{l:List (IV×IV)}{c:Option (IV×IV)}(h:s.obj id=ze (.ar8 l c)):bm1 s (.ptr id 0)=ze (id,l):=by simp only[bm1,h]
theorem jr2 {s:Store}{id:Nat}{l:List (IV×IV)}{c:IV×IV}(h:s.obj id=ze (.ar8 l (ze c))):cs3 s (.ptr id 0)=ze (.tuple [c.1,c.2]):=by simp only[cs3,h]
end Go.Id.Tryz
namespace Go.Id.Tryz
open Go Go.Id Go.Proofs Go.Id.Md
theorem bx5:∀ (ks l:List Str),(ks.foldl au5 l).length<=l.length+ks.length
 | [],l=>zc _
 | k::ks,l=>by
  refine zk (bx5 ks _) ?_
  have:(au5 l k).length<=l.length+1:=by
   unfold au5; split
   ·omega
   ·simp
  simp only[zj]; omega
theorem hn7 (p:aa2):(cy6 p).length<=p.provides.length+p.files.length+1:=by
 refine zk (bx5 _ _) ?_;have:=bx5 (p.provides.map (·.name)) [p.name];simp only[za,zj,zw] at this;omega
theorem bj5 (p:Pool)(hf:∀ r∈p.rows,r.pkg.Fit)(hlen:p.rows.length<=2^14)(hs:∀ r∈p.rows,r.pkg.provides.length+r.pkg.files.length+r.pkg.ab2.length+3<=2^15) :
  PC Tryz.prog EE 34 [p.v] (.tuple [(ak3 (p.rows.map (·.pkg))).v,.int .i64 0]):=by
 obtain ⟨pk,hpk0⟩:∃ pk,p.rows.map (·.pkg)=pk:=⟨_,rfl⟩;have hpl:pk.length=p.rows.length:=by rw[<- hpk0,za]
 rw[hpk0];obtain ⟨W,hW⟩:∃ W:Nat,W=2^15:=⟨_,rfl⟩;have hC:=bd4 p;have hP:=fun (n:Nat) (h:n<p.rows.length)=>be4 p n h (hf _ (zs h))
 have hb:=ay1 p;obtain ⟨cs,hcs⟩:∃ cs,p.v=.ab5 cs:=⟨_,rfl⟩;rw[hcs] at hC hP hb ⊢;refine ae5 hE fok34 (nZ rfl) (fun a ha=>by cases z4.1 ha; exact hb) ?_;simp only[ic34,go_sem];refine aa3 fok36 hC ?_;simp only[go_sem]
 refine ab1 noT (fun i fr s=>fr=[(0,.ab5 cs),(4,.ptr 3 0),(19,.int .i64 p.rows.length),(20,.int .i64 i)]/\∃ rv L1 L2 L3 tag,IS s 3 0 1 2 (pk.take i) rv L1 L2 L3 tag (i*W) /\
  (ba9 L1).Perm (ak3 (pk.take i)).ax2/\(ba9 L2).Perm (ak3 (pk.take i)).names/\(ba9 L3).Perm (ak3 (pk.take i)).over) p.rows.length ⟨rfl,.aa1,[],[],[],(fun i=>if i=0 then 1 else if i=1 then 2 else if i=2 then 3 else 4),?_,.refl _,.refl _,.refl _⟩ ?_
 ·have e0:∀ (c mid:Nat) (L:NmL) (st:Store) (tag:Nat->Nat),L=[]->st.obj mid=ze (.map [])->mid<st.next->tag mid=c->MS st tag c mid L (0*W):=fun c mid L st tag h1 h2 h3 h4=>by
   subst h1;exact { map:=h2,row:=fun t ht=>(by cases ht),cr1:=fun t ht=>(by cases ht),ids:=z1,keys:=z1,lt:=h3,ho5:=h4 }
  refine { cell:=rfl,ltp:=Nat.lt_succ_self 3,grow:=.inl ⟨rfl,rfl⟩,cr1:=fun id n h=>(by cases h),m1:=e0 1 0 [] _ _ rfl rfl ?_ rfl,m2:=e0 2 1 [] _ _ rfl rfl ?_ rfl,m3:=e0 3 2 [] _ _ rfl rfl ?_ rfl,ef7:=rfl }
  ·show 0<4; decide
  ·show 1<4; decide
  ·show 2<4; decide
 rintro i fr s hle ⟨rfl,rv,L1,L2,L3,tag,hI,p1,p2,p3⟩;by_cases hlt:i<p.rows.length
 ·have c1:(i:Int)<p.rows.length:=om
  have c2:(0:Int)<=i:=om
  have w1:=ac4 (i:=i) om;have hQ:=hP i hlt;have hx:p.rows[i]∈p.rows:=zs hlt;have hfx:=hf _ hx;have hsx:=hs _ hx
  have htk:pk.take (i+1)=pk.take i++[p.rows[i].pkg]:=by
   rw[<- hpk0,List.take_add_one,List.getElem?_map,z7 hlt]; rfl
  generalize hpk:p.rows[i].pkg=x at *;simp only[go_sem,c1,c2];refine aa3 fok37 hQ ?_;have e3:¬ 3=s.next:=by have:=hI.ltp; omega
  have hiW:i*W+W<=2^29:=by
   have h1:i*W+W=(i+1)*W:=(Nat.succ_mul i W).symm;rw[h1,hW]; omega
  have hWx:x.provides.length+x.files.length+x.ab2.length+3<=W:=by rw[hW]; exact hsx
  have e3':¬ s.next=3:=fun e=>e3 e.symm
  simp only[go_sem,af8,ah2,af4,e3,hI.cell,zh];generalize hS:Store.put (Store.put _ s.next _) s.next (al8.cells x.cs)=S1;have hS1:S1.next=s.next+1:=by rw[<- hS]; rfl
  have hbx:S1.obj s.next=ze (.cells x.cs):=by rw[<- hS]; simp only[aa5,if_true]
  have h1:IS S1 3 0 1 2 (pk.take i) rv L1 L2 L3 tag (i*W):=hI.mono (zc _) om fun j hj=>by
   have e:¬ j=s.next:=om
   rw[<- hS]; simp only[aa5,e,if_false]
  clear hS;have hal:(pk.take i).length=i:=by rw[zq]; omega
  obtain ⟨t1,ha1,ha2,ha3,ha4,hps⟩:=h1.push x (s.next+12) (s.next+8) om om (by rw[hal]; omega);rw[hal] at ha1 hps;rw[ha1];have hc1:t1.obj 3=ze (.cells [rv,.map 0,.map 1,.map 2]):=by rw[ha3]; exact h1.cell
  have hb1:t1.obj s.next=ze (.cells x.cs):=ha4 _ _ om hbx (fun _ e=>by cases e);have h2:=hps t1.next om;generalize hX:(al8.cells [.slice (s.next+8) 0 (i+1) 15,.map 0,.map 1,.map 2])=X at hps h2;have hlk2:∀ m,de1 ⟨m,(t1.put 3 X).obj⟩ 2 .aa1 false (.map 1) (.str x.name)=ze (cy2 L2 x.name):=fun m=>hm3 (σ:=⟨m,(t1.put 3 X).obj⟩) h2.m2.map x.name
  obtain ⟨t2,ib1,ib2,ib3,ib4,hpt⟩:=h2.m2.upd x.name (i:Int) (t1.next+17) (t1.next+15) (by show t1.next<=_; omega) (by show t1.next<=_; omega) om;simp only at ib1 ib3;subst hX;simp only[go_sem,e3',hc1,hb1,fb9,hlk2,ib1,zh];rw[fb8 ib3 x.name (i:Int) (t1.next+15)];have g3:3<s.next:=hI.ltp
  have hb2:(t2.put 1 (al8.map (mEs (bb8 L2 x.name (i:Int) (t1.next+15))))).obj s.next=ze (.cells x.cs):=by
   have e:¬ s.next=1:=om
   simp only[aa5,e,if_false];refine ib4 _ _ (by show s.next<t1.next; omega) ?_ (fun _ e=>by cases e);simp only[aa5,e3',if_false]; exact hb1
  have hn2:(t2.put 1 (al8.map (mEs (bb8 L2 x.name (i:Int) (t1.next+15))))).next=t1.next+17:=ib2;have hpt':=hpt (t2.put 1 (al8.map (mEs (bb8 L2 x.name (i:Int) (t1.next+15))))).next (by rw[hn2]; omega);have h3:=h2.of2 (s':=t2.put 1 (al8.map (mEs (bb8 L2 x.name (i:Int) (t1.next+15))))) (nid:=t1.next+15) (by rw[hn2]; show t1.next<=_; omega) (by show t1.next<=_; omega) hpt'.1 hpt'.2;clear hpt'
  have q2:(ba9 (bb8 L2 x.name (i:Int) (t1.next+15))).Perm (ar5 (ak3 (pk.take i)).names x.name i):=by
   rw[ct9]; exact bt1 (by show ((ba9 L2).map (·.1)).Nodup; unfold ba9; rw[zz]; exact hI.m2.keys) p2
  generalize bb8 L2 x.name (i:Int) (t1.next+15)=L2' at *;generalize t2.put 1 (al8.map (mEs L2'))=S2 at *;generalize er1 (er1 tag 0 (s.next+8)) 2 (t1.next+15)=tag2 at *;clear hpt hps ib1 ib2 ib3 ib4 hlk2;simp only[go_sem,hb2,af8,ah2,af4];refine aa3 fok83 (ft7 x hfx) ?_;simp only[go_sem,zh];clear h1 h2 ha4 ha3 hc1 hb1 ha1 p2;have hkn1:KN (ak3 (pk.take i)).ax2:=KN.perm (nm:=ba9 L1) (by show ((ba9 L1).map (·.1)).Nodup; unfold ba9; rw[zz]; exact hI.m1.keys) p1;have hol:(cy6 x).length<=x.provides.length+x.files.length+1:=hn7 x
  have hidx:ak3 (pk.take (i+1))=ec5 (ak3 (pk.take i)) i x:=by
   rw[htk]; unfold ak3; rw[ec6,hal,Nat.zero_add]
  generalize pk.take i++[x]=allI at *;generalize IV.slice (s.next+8) 0 (i+1) 15=rv2 at *;have hsm:¬ s.next=S2.next:=om
  refine ab1 noT (fun j fr t=>fr=[(0,.ab5 cs),(4,.ptr 3 0),(5,.int .i64 i),(6,.ptr s.next 0),(19,.int .i64 p.rows.length),(20,.int .i64 i),(60,.ptr S2.next 0)]/\S2.next+1<=t.next/\t.obj s.next=ze (.cells x.cs) /\
   ∃ done left cur L tg,(done++left).Perm (cy6 x)/\done.length=j/\t.obj S2.next=ze (.ar8 (left.map sE) cur)/\IS t 3 0 1 2 allI rv2 L L2' L3 tg (i*W+1+j)/\(ba9 L).Perm (bb1 (ak3 (pk.take i)).ax2 done i)) (cy6 x).length
   ⟨rfl,zc _,?_,[],cy6 x,z6,L1,tag2,.refl _,rfl,?_,?_,p1⟩ ?_
  ·simp only[aa5,hsm,if_false]; exact hb2
  ·simp only[aa5,if_true]
  ·refine h3.mono (zc _) (by show S2.next<=S2.next+1; omega) fun j hj=>?_
   have e:¬ j=S2.next:=om
   simp only[aa5,e,if_false]
  rintro j fr t hjle ⟨rfl,hnt,hbt,done,left,cur,L,tg,hpm,hdl,hmi,hIt,hpL⟩;have hll:done.length+left.length=(cy6 x).length:=by rw[<- hpm.length_eq,zd]
  simp only[go_sem,jr1 hmi];refine ⟨fun hnil=>?_,fun k hk=>?_⟩
  ·have hl0:left=[]:=by simpa using hnil
   subst hl0;rw[List.append_nil] at hpm;have q1:=hpL.trans (ec4 hpm hkn1);simp only[go_sem,hbt,aa2.cs,bi7];have hjl:j=(cy6 x).length:=by rw[<- hdl]; simpa using hll
   subst hjl;clear hmi hbt hpL hpm hll hdl
   refine ab1 noT (fun j fr u=>fr=[(0,.ab5 cs),(4,.ptr 3 0),(5,.int .i64 i),(19,.int .i64 p.rows.length),(20,.int .i64 i),(80,deps x.ab2),(81,.int .i64 x.ab2.length),(82,.int .i64 j)] /\
    ∃ L3' tg',IS u 3 0 1 2 allI rv2 L L2' L3' tg' (i*W+1+(cy6 x).length+j)/\(ba9 L3').Perm (at5 (ak3 (pk.take i)).over ((x.ab2.take j).map (·.name)) i)) x.ab2.length ⟨rfl,L3,tg,hIt,p3⟩ ?_
   rintro j fr u hjo ⟨rfl,L3',tg',hIu,r3⟩;have hkn3:KN (ba9 L3'):=by show ((ba9 L3').map (·.1)).Nodup; unfold ba9; rw[zz]; exact hIu.m3.keys
   by_cases hjlt:j<x.ab2.length
   ·obtain ⟨d,hd,_,hdr,hget,htk2⟩:=ad6 x.ab2 j hjlt;have d1:(j:Int)<x.ab2.length:=om
    have d2:(0:Int)<=j:=om
    have w2:=ac4 (i:=j) om;have g3u:=hIu.ltp;have f3:¬ 3=u.next:=om
    simp only[go_sem,d1,d2,hget,Dep.cs,f3,hIu.cell,zh];generalize hU:Store.put (Store.put _ u.next _) u.next _=U;have hUn:U.next=u.next+1:=by rw[<- hU]; rfl
    have hUd:U.obj u.next=ze (.cells [.str d.name,.int .u8 d.op,.int .i64 d.evr.ak4,.str d.evr.ver,.str d.evr.rel]):=by rw[<- hU]; simp only[aa5,if_true]
    have hIU:IS U 3 0 1 2 allI rv2 L L2' L3' tg' (i*W+1+(cy6 x).length+j):=hIu.mono (zc _) om fun a ha=>by
     have e:¬ a=u.next:=om
     rw[<- hU]; simp only[aa5,e,if_false]
    clear hU;have hlk:∀ m,de1 ⟨m,U.obj⟩ 2 .aa1 false (.map 2) (.str d.name)=ze (cy2 L3' d.name):=fun m=>hm3 (σ:=⟨m,U.obj⟩) hIU.m3.map d.name
    simp only[go_sem,hlk];obtain ⟨hcg,hcl⟩:=hIU.m3.cur d.name (u.next+11) om
    have hfz:cs9 (⟨u.next+11,U.obj⟩:Store) 0 (cy2 L3' d.name) (.aa4 ((ce3 L3' d.name).map Md.ae4)):=hcg.frz (fun y hy=>(bx4 _ y hy).1) (fun _ _=>zi _) fun e he c hc=>by
     obtain ⟨n,_,rfl⟩:=zb.1 he
     cases hc with
     | head=>exact .int _ _
     | tail _ h=>cases h
    have hat:=(gt3.cons hfz (gt3.cons (ad1 .i64 (i:Int)) .nil)).at;refine ad3 fok84 (be3 hE hat.1 hat.2 (by simp[IV.plain]) (ef4 (ce3 L3' d.name) i om)) ?_;rintro v' s' ⟨rfl,rfl⟩;refine ⟨zc _,?_⟩
    have hin:(i:Int)∈ae2 (at5 (ak3 (pk.take i)).over ((x.ab2.take j).map (·.name)) i) d.name↔(i:Int)∈ce3 L3' d.name:=by
     rw[<- cy4 hkn3 r3,fr6]
    cases hc:decide ((i:Int)∈ce3 L3' d.name) with
    | true=>
     have hc':(i:Int)∈ce3 L3' d.name:=of_decide_eq_true hc;simp only[go_sem,w2];refine ⟨hjlt,L3',tg',?_,?_⟩
     ·have:=hIU.mono (s':=⟨u.next+11,U.obj⟩) (zo _) (by show U.next<=u.next+11; omega) fun _ _=>rfl
      simpa only[zh,Nat.succ_eq_add_one] using this
     ·rw[htk2,zg,zv,List.map_nil,cq4,if_pos (hin.2 hc')]; exact r3
    | false=>
     have hc':¬ (i:Int)∈ce3 L3' d.name:=of_decide_eq_false hc;obtain ⟨t5,jb1,jb2,jb3,jb4,jpt⟩:=hIU.m3.upd d.name (i:Int) (u.next+28) (u.next+26) om om om;simp only[go_sem,hIU.cell,hUd,hlk,jb1,zh];rw[fb8 jb3 d.name (i:Int) (u.next+26)];have hn5:(t5.put 2 (al8.map (mEs (bb8 L3' d.name (i:Int) (u.next+26))))).next=u.next+28:=jb2;have jpt':=jpt (t5.put 2 (al8.map (mEs (bb8 L3' d.name (i:Int) (u.next+26))))).next (by rw[hn5]; omega);have hI5:=hIU.of3 (s':=t5.put 2 (al8.map (mEs (bb8 L3' d.name (i:Int) (u.next+26))))) (nid:=u.next+26) (by rw[hn5]; omega) om jpt'.1 jpt'.2
     have hq:(ba9 (bb8 L3' d.name (i:Int) (u.next+26))).Perm (ar5 (at5 (ak3 (pk.take i)).over ((x.ab2.take j).map (·.name)) i) d.name i):=by
      rw[ct9];exact bt1 hkn3 r3
     clear jpt jpt' jb1 jb3 jb4;generalize t5.put 2 (al8.map (mEs (bb8 L3' d.name (i:Int) (u.next+26))))=T5 at *;simp only[go_sem,w2];refine ⟨hjlt,bb8 L3' d.name (i:Int) (u.next+26),_,by simpa only[zh] using hI5,?_⟩;rw[htk2,zg,zv,List.map_nil,cq4,if_neg (fun e=>hc' (hin.1 e))]; exact hq
   ·have hj':j=x.ab2.length:=om
    subst hj';have d1:¬ (x.ab2.length:Int)<x.ab2.length:=om
    rw[zm] at r3;simp only[go_sem,d1,w1];refine ⟨hlt,rv2,L,L2',L3',tg',?_,?_,?_,?_⟩
    ·rw[htk];have hle2:i*W+1+(cy6 x).length+x.ab2.length<=(i+1)*W:=by rw[Nat.succ_mul]; omega
     exact hIu.mono hle2 (zc _) fun _ _=>rfl
    ·rw[hidx]; exact q1
    ·rw[hidx]; exact q2
    ·rw[hidx]; exact r3
  ·have hge:(left.map sE).getD k (.undef,.undef)=sE left[k]:=by simp[zf,hk]
   rw[hge,ef5];generalize hT:Store.put t S2.next (al8.ar8 ((left.eraseIdx k).map sE) (ze (sE left[k])))=T;have hTn:T.next=t.next:=by rw[<- hT]; rfl
   have hTm:T.obj S2.next=ze (.ar8 ((left.eraseIdx k).map sE) (ze (sE left[k]))):=by rw[<- hT]; simp only[aa5,if_true]
   have hTb:T.obj s.next=ze (.cells x.cs):=by rw[<- hT]; simp only[aa5,hsm,if_false]; exact hbt
   have hIT:IS T 3 0 1 2 allI rv2 L L2' L3 tg (i*W+1+j):=hIt.gm8 (zc _) om fun a o ha hao hne=>by
    rw[<- hT];have e:¬ a=S2.next:=fun e=>by subst e; rw[hmi] at hao; cases hao; exact hne _ _ rfl
    simp only[aa5,e,if_false]; exact hao
   clear hT;generalize hkey:left[k]=key at *;obtain ⟨t3,ib1,ib2,ib3,ib4,hpt⟩:=hIT.m1.upd key (i:Int) (t.next+15) (t.next+13) om om om;have hlk:∀ m,de1 ⟨m,T.obj⟩ 2 .aa1 false (.map 0) (.str key)=ze (cy2 L key):=fun m=>hm3 (σ:=⟨m,T.obj⟩) hIT.m1.map key
   have hme:∀ m,cs3 ⟨m,T.obj⟩ (.ptr S2.next 0)=ze (.tuple [.str key,.agg []]):=fun m=>jr2 (s:=⟨m,T.obj⟩) hTm
   simp only[go_sem,hme,hIT.cell,hlk,ib1,zh];rw[fb8 ib3 key (i:Int) (t.next+13)];have hn4:(t3.put 0 (al8.map (mEs (bb8 L key (i:Int) (t.next+13))))).next=t.next+15:=ib2;have hpt':=hpt (t3.put 0 (al8.map (mEs (bb8 L key (i:Int) (t.next+13))))).next (by rw[hn4]; omega);have hI4:=hIT.of1 (s':=t3.put 0 (al8.map (mEs (bb8 L key (i:Int) (t.next+13))))) (nid:=t.next+13) (by rw[hn4]; omega) om hpt'.1 hpt'.2
   have hmi4:(t3.put 0 (al8.map (mEs (bb8 L key (i:Int) (t.next+13))))).obj S2.next=ze (.ar8 ((left.eraseIdx k).map sE) (ze (sE key))):=by
    have e:¬ S2.next=0:=om
    simp only[aa5,e,if_false];exact ib4 _ _ om hTm (fun _ e=>by cases e)
   have hb4:(t3.put 0 (al8.map (mEs (bb8 L key (i:Int) (t.next+13))))).obj s.next=ze (.cells x.cs):=by
    have e:¬ s.next=0:=om
    simp only[aa5,e,if_false];exact ib4 _ _ om hTb (fun _ e=>by cases e)
   have hq:(ba9 (bb8 L key (i:Int) (t.next+13))).Perm (bb1 (ak3 (pk.take i)).ax2 (done++[key]) i):=by
    rw[ct9,en8];exact bt1 (by show ((ba9 L).map (·.1)).Nodup; unfold ba9; rw[zz]; exact hIT.m1.keys) hpL
   clear hpt hpt' ib1 ib3 ib4;generalize t3.put 0 (al8.map (mEs (bb8 L key (i:Int) (t.next+13))))=T4 at *;simp only[go_sem];refine ⟨om,om,hb4,done++[key],left.eraseIdx k,ze (sE key),bb8 L key (i:Int) (t.next+13),_,?_,by rw[zd,hdl]; rfl,hmi4,by simpa only[zh] using hI4,hq⟩;rw[qf];refine z9.trans (z9.append_left done ?_) hpm;rw[<- hkey];exact (dn2 left k hk).symm
 ·have hi':i=p.rows.length:=om
  subst hi';have c1:¬ (p.rows.length:Int)<p.rows.length:=om
  rw[<- hpl,zm] at hI p1 p2 p3;simp only[go_sem,c1];refine .cp9 (.cons ?_ (.cons (ad1 _ _) .nil))
  have hall:∀ (l:List aa2) (y:Index) (n:Nat),(idxFrom y n l).all=y.all++l:=by
   intro l
   induction l with
   | nil=>intro y n; simp[idxFrom]
   | cons a l ih=>intro y n; simp only[idxFrom,ih,ec5]; simp
  exact hI.frz (by unfold ak3; rw[hall]; rfl) p1 p2 p3
end Go.Id.Tryz
namespace Go.Id.Tryz
open Go Go.Id Go.Proofs Go.Id.Md
theorem am8 {f:Nat}{args:List IV}{v:IV}{σ:Store}{K:IV->Store->Prop}(hf:okF Tryz.prog f=true)(h:PC Tryz.prog EE f args v)(hk:K v σ):cx6 Tryz.prog EE z6 f args σ K :=
 aq1 hf (en1 h) fun _ _ ⟨h1,h2⟩=>by subst h1; subst h2; exact ⟨zc _,hk⟩
theorem bj6 (x:Index):Bnd 0 x.v:=.ab5 _ fun c hc=>by
 simp only[zl,zp,or_false] at hc;rcases hc with rfl|rfl|rfl|rfl
 ·exact aq4 _
 ·exact du5 _
 ·exact du5 _
 ·exact du5 _
theorem gm9 (x:Index)(l:List Int)(hl:l.length<2^30)(k:Nat)(cap:List IV)(w:Int->Bool)(hcap:∀ c∈cap,Bnd 0 c)(hok:okF Tryz.prog k=true)
  (hW:∀ n∈l,∃ m:Nat,n=m/\∃ h:m<x.all.length,PC Tryz.prog EE k (.agg x.all[m].cs::.int .i64 n::cap) (.bool (w n))) :
  PC Tryz.prog EE 229 [x.v,.aa4 (l.map Md.ae4),.func (.func k) [] cap] (.aa4 ((l.filter w).map Md.ae4)):=by
 have hx:x.v=.ab5 [.aa4 (x.all.map aa2.cs),.an9 (nmV x.ax2),.an9 (nmV x.names),.an9 (nmV x.over)]:=rfl;have hbx:=bj6 x;rw[hx] at hbx ⊢;generalize IV.an9 (nmV x.ax2)=v1 at *;generalize IV.an9 (nmV x.names)=v2 at *;generalize IV.an9 (nmV x.over)=v3 at *;refine ae5 hE fok229 (nZ rfl) (fun a ha=>?_) ?_
 ·simp only[zl,zp,or_false] at ha;rcases ha with rfl|rfl|rfl
  ·exact hbx
  ·exact ai1 _
  ·exact .func _ _ _ (fun c hc=>by cases hc) hcap
 simp only[ic229,go_sem];refine ab1 noT (fun i fr s=>∃ gv,fr=[(0,.ab5 [.aa4 (x.all.map aa2.cs),v1,v2,v3]),(2,.func (.func k) [] cap),(7,gv),(10,.aa4 (l.map Md.ae4)),(11,.int .i64 l.length),(12,.int .i64 i)]/\Grow s gv 1 (((l.take i).filter w).map Md.ae4)) l.length ⟨.aa1,rfl,.inl ⟨rfl,rfl⟩⟩ ?_;rintro i fr s hle ⟨gv,rfl,hg⟩;by_cases hlt:i<l.length
 ·obtain ⟨n,hn,_,hdr,hget,htk⟩:=ad6 l i hlt;have c1:(i:Int)<l.length:=om
  have c2:(0:Int)<=i:=om
  have w1:=ac4 (i:=i) om;obtain ⟨m,rfl,hm,hpc⟩:=hW n hn;have c3:(m:Int)<x.all.length:=om
  have c4:(0:Int)<=m:=om
  have hgm:(x.all.map aa2.cs).getD m []=x.all[m].cs:=by simp[zf,hm]
  simp only[go_sem,c1,c2,c3,c4,hget,Md.ae4,hgm,af8,ah2,af4,zu,za];refine am8 hok hpc ?_
  cases hw:w (m:Int) with
  | false=>
   simp only[go_sem,w1]
   exact ⟨hlt,gv,rfl,by rw[htk,qc]; simpa [hw] using hg⟩
  | true=>
   have hg1:Grow ⟨s.next+1,s.obj⟩ gv 1 (((l.take i).filter w).map Md.ae4):=Grow.mono (σ:=s) hg (zo _) fun _ _ _=>rfl
   have hlen:((l.take i).filter w).length<=i:=by
    refine zk (List.length_filter_le _ _) ?_;rw[zq]; omega
   have hap:=am4 (nid:=s.next) (e:=[.int .i64 (m:Int)]) hg1 (bx4 _) ⟨rfl,rfl⟩ (by rw[za]; omega);simp only[go_sem,hap,w1];refine ⟨hlt,_,rfl,?_⟩;rw[htk,qc,zg];have e:List.filter w [(m:Int)]=[(m:Int)]:=by simp[hw]
   rw[e];refine .inr ⟨s.next,by simp,?_,?_⟩
   ·show (if s.next=s.next then _ else _)=_;rw[if_pos rfl]; rfl
   ·show s.next<(ag2 gv _).next;rw[ac9]; exact Nat.lt_succ_self _
 ·have hi':i=l.length:=om
  subst hi';have c1:¬ (l.length:Int)<l.length:=om
  rw[zm] at hg;simp only[go_sem,c1];refine hg.frz (fun y hy=>(bx4 _ y hy).1) (fun _ _=>zi _) fun e he c hc=>?_
  obtain ⟨n,_,rfl⟩:=zb.1 he
  cases hc with
  | head=>exact .int _ _
  | tail _ h=>cases h
end Go.Id.Tryz
namespace Go.Id.Tryz
open Go Go.Id Go.Proofs Go.Id.Md
theorem ef6 (s:Str):PC Tryz.prog EE 238 [.str s] (.func (.func 256) [] [.ab5 [.str s]]):=by
 refine ae5 hE fok238 (nZ rfl) (af3 (.str _)) ?_;simp only[ic238,go_sem];have h1:∀ c∈[IV.str s],Bnd 0 c:=af3 (.str _);have h2:∀ c∈[IV.ab5 [.str s]],Bnd 0 c:=af3 (.ab5 _ h1);exact .keep _ (.func _ _ _ (fun c hc=>by cases hc) h2)
theorem bd5 (l:List Part):∀ e∈l.map Part.cs,e.length=2/\e.all IV.leaf=true:=fun e he=>by
 obtain ⟨x,_,rfl⟩:=zb.1 he; exact ⟨rfl,rfl⟩
theorem ft8:∀ (n:Nat) (l:Str),l.length<=n->(au4 n l).length<=l.length:=by
 intro n
 induction n with
 | zero=>intro l h; simp[au4]
 | succ n ih=>
  intro l h
  cases l with
  | nil=>simp[au4]
  | cons b l=>
   simp only[zj] at h;simp only[au4];split
   ·exact zk (ih l om) (by simp)
   ·split
    ·simp only[zj]; have:=ih l om; omega
    ·simp only[zj]
     have hd:((b::l).dropWhile fun c=>ad2 c==ad2 b).length<=l.length:=by
      rw[zx,if_pos (by simp)]; exact cu5 l
     have:=ih _ (zk hd om);omega
theorem bh7 (s:Str):(ab7 s).length<=s.length:=ft8 _ _ (zc _)
theorem dn3 (s:Str)(hs:s.length<2^30)(σ:Store):C Tryz.prog EE 216 [.str s] σ fun v t=>(∀ i,i<σ.next->t.obj i=σ.obj i)/\σ.next<=t.next/\Grow t v 2 ((ab7 s).map Part.cs)/\∀ id n,v=.slice id 0 n 2->σ.next<=id:=by
 refine C_f fok216 (nZ rfl) ?_;simp only[ic216,go_sem];refine aa3 fok238 (ef6 s) ?_;simp only[go_sem];have hvl:=bh7 s;refine cw8 (hm7 s om) (fun rest t=>∃ n v,n<=(ab7 s).length/\rest=((ab7 s).drop n).map evP/\(∀ i,i<σ.next->t.obj i=σ.obj i)/\t.obj σ.next=ze (.cells [v])/\σ.next<t.next/\Grow t v 2 (((ab7 s).take n).map Part.cs)/\∀ id k,v=.slice id 0 k 2->σ.next+1<id) (fun _ _ _=>trivial) ?_ ?_ ?_ ?_ ?_
 ·rintro rest t t' ⟨n,v,h0,h1,h2,h3,h4,h5,h6⟩ hn ho;exact ⟨n,v,h0,h1,fun i hi=>by rw[ho i om]; exact h2 i hi,by rw[ho _ h4]; exact h3,om,h5.mono hn fun id _ hid=>ho id hid,h6⟩
 ·intro a ha;obtain ⟨p,_,rfl⟩:=zb.1 ha;rfl
 ·intro o;have e0:¬ σ.next=σ.next+1:=om
  refine ⟨0,.aa1,z2 _,rfl,fun i hi=>?_,?_,by show σ.next<σ.next+1+1; omega,.inl ⟨rfl,by simp⟩,fun id k h=>by cases h⟩
  ·have e1:¬ i=σ.next:=om
   have e2:¬ i=σ.next+1:=om
   simp only[aa5,aa7,e1,e2,if_false]
  ·simp only[aa5,aa7,e0,if_false,if_true]
 ·rintro L pre a rest t hev ⟨n,v,h0,h1,h2,h3,h4,h5,h6⟩ hL hlt
  have hn:n<(ab7 s).length:=by
   rcases Nat.lt_or_ge n (ab7 s).length with h|h
   ·exact h
   ·rw[z0 h] at h1; cases h1
  rw[zt hn,zv] at h1;obtain ⟨ha,hrest⟩:=List.cons.inj h1;subst ha;simp only[evP,Part.cs,aa7] at hL hlt ⊢;have e1:¬ σ.next+1=t.next:=om
  have e2:¬ σ.next=t.next:=om
  have e3:¬ σ.next=σ.next+1:=om
  have e4:¬ t.next=σ.next+1:=om
  have e5:¬ t.next=σ.next:=om
  simp only[go_sem,hL,e1,e2,e3,e4,h3];generalize hU:(((Store.put ⟨t.next+1,t.obj⟩ t.next (al8.cells [IV.int .u8 0,IV.str []])).put t.next (al8.cells [IV.int .u8 ↑(ab7 s)[n].kind,IV.str (ab7 s)[n].s])).put (σ.next+1) (L .busy z6))=U
  have hUo:∀ i,i<t.next->i≠σ.next+1->U.obj i=t.obj i:=fun i hi hne=>by
   have:¬ i=t.next:=om
   rw[<- hU]; simp only[aa5,hne,this,if_false]
  have hUL:U.obj (σ.next+1)=ze (L .busy z6):=by rw[<- hU]; simp only[aa5,if_true]
  have hg:Grow ⟨t.next+1+1,U.obj⟩ v 2 (((ab7 s).take n).map Part.cs):=by
   refine h5.mono (by show t.next<=t.next+1+1; omega) fun id hv hid=>?_
   have:=h6 _ _ hv;exact hUo id hid om
  have hl0:(((ab7 s).take n).map Part.cs).length=n:=by rw[za,zq]; omega
  have hap:=am4 (nid:=t.next+1) (e:=[IV.int .u8 ↑(ab7 s)[n].kind,IV.str (ab7 s)[n].s]) hg (bd5 _) ⟨rfl,rfl⟩ (by rw[hl0]; omega);have k1:=ah3 hg σ.next (.cells [v]) (by show U.obj _=_; rw[hUo _ h4 e3]; exact h3) (fun _ h=>by cases h)
  have k2:(ag2 v ⟨t.next+1+1,U.obj⟩).obj (σ.next+1)=ze (L .busy z6):=by
   cases hv:v<;>try exact hUL
   rename_i id o n' e;show (if σ.next+1=id then z6 else U.obj _)=_;rcases h5 with ⟨h,_⟩|⟨id',h,_,_⟩
   ·rw[h] at hv; cases hv
   ·rw[hv] at h; cases h;have:=h6 _ _ hv;rw[if_neg om]; exact hUL
  have k3:∀ i,i<σ.next->(ag2 v ⟨t.next+1+1,U.obj⟩).obj i=σ.obj i:=fun i hi=>by
   have e7:U.obj i=σ.obj i:=by rw[hUo i om om]; exact h2 i hi
   cases hv:v<;>try exact e7
   rename_i id o n' e;show (if i=id then z6 else U.obj _)=_;rcases h5 with ⟨h,_⟩|⟨id',h,_,_⟩
   ·rw[h] at hv; cases hv
   ·rw[hv] at h; cases h;have:=h6 _ _ hv;rw[if_neg om]; exact e7
  have kn:=ac9 (σ:=⟨t.next+1+1,U.obj⟩) v;rw[hl0] at hap;have e6:¬ σ.next=t.next+1:=om
  have e7:¬ σ.next+1=t.next+1:=om
  have e8:¬ σ.next+1=σ.next:=om
  simp only[go_sem,hap,e6,k1,e7,e8,k2];refine dq7 (by rw[aa7,aa7,aa7,kn]; show t.next<=t.next+1+1; omega) (by simp only[aa5,if_true]) ?_;refine ⟨n+1,.slice (t.next+1) 0 (n+1) 2,hn,hrest,fun i hi=>?_,?_,?_,?_,fun id k h=>?_⟩
  ·have g1:¬ i=σ.next+1:=om
   have g2:¬ i=σ.next:=om
   have g3:¬ i=t.next+1:=om
   simp only[aa5,g1,g2,g3,if_false]; exact k3 i hi
  ·simp only[aa5,e3,if_false,if_true]
  ·simp only[aa7,kn]; omega
  ·have htk:(ab7 s).take (n+1)=(ab7 s).take n++[(ab7 s)[n]]:=by rw[List.take_succ_eq_append_getElem hn]
   rw[htk,zg];refine .inr ⟨t.next+1,by simp; omega,?_,by simp only[aa7,kn]; omega⟩;have g1:¬ t.next+1=σ.next+1:=om
   have g2:¬ t.next+1=σ.next:=om
   simp only[aa5,g1,g2,if_false,if_true]; rfl
  ·cases h; omega
 ·rintro t o ⟨n,v,h0,h1,h2,h3,h4,h5,h6⟩ hlt ho
  have hn:n=(ab7 s).length:=by
   rcases Nat.lt_or_ge n (ab7 s).length with h|h
   ·rw[zt h] at h1; cases h1
   ·omega
  subst hn;have e3:¬ σ.next=σ.next+1:=om
  simp only[aa7] at hlt ho ⊢;simp only[go_sem,e3,h3];rw[zm] at h5;refine ⟨fun i hi=>?_,om,h5.mono (zc _) fun id hv hid=>?_,fun id k h=>?_⟩
  ·have g1:¬ i=σ.next+1:=om
   rw[if_neg g1]; exact h2 i hi
  ·have:=h6 _ _ hv;have g1:¬ id=σ.next+1:=om
   show (if id=σ.next+1 then z6 else t.obj id)=_;rw[if_neg g1]
  ·have:=h6 _ _ h; omega
theorem ie6 {p:UInt8->Bool}(l:Str):(l.takeWhile p).length<=l.length:=(List.takeWhile_sublist _).length_le
theorem hn8:∀ (n:Nat) (l:Str),l.length<=n->∀ p∈au4 n l,p.s.length<=l.length:=by
 intro n
 induction n with
 | zero=>intro l h p hp; simp[au4] at hp
 | succ n ih=>
  intro l h p hp
  cases l with
  | nil=>simp[au4] at hp
  | cons b l=>
   simp only[zj] at h;simp only[au4] at hp;split at hp
   ·exact zk (ih l om p hp) (by simp)
   ·split at hp
    ·rcases zl.1 hp with rfl|hp
     ·simp
     ·exact zk (ih l om p hp) (by simp)
    ·have hd:((b::l).dropWhile fun c=>ad2 c==ad2 b).length<=l.length:=by
      rw[zx,if_pos (by simp)]; exact cu5 l
     rcases zl.1 hp with rfl|hp
     ·simp only;split
      ·exact zk (cu5 _) (ie6 _)
      ·exact ie6 _
     ·exact zk (ih _ (zk hd om) p hp) (zk hd (by simp))
theorem hn9 (s:Str):∀ p∈ab7 s,p.s.length<=s.length:=hn8 _ _ (zc _)
def db5:Part:=⟨2,[]⟩
abbrev vL (s:Str):List Part:=ab7 s++[db5]
theorem jk5 (s:Str):∀ p∈vL s,p.s.length<=s.length:=fun p hp=>by
 rcases List.mem_append.1 hp with h|h
 ·exact hn9 s p h
 ·simp[db5] at h; subst h; exact z2 _
theorem cc2 {xs ys:List Part}{i:Nat}(h1:i<xs.length)(h2:i<ys.length):af9 (xs.drop i) (ys.drop i)=if ae8 xs[i] ys[i]≠0 then ae8 xs[i] ys[i] else af9 (xs.drop (i+1)) (ys.drop (i+1)):=by
 rw[zt h1,zt h2,af9]
theorem cq9 {xs ys:List Part}{i:Nat}(h:xs.length<=i\/ys.length<=i):af9 (xs.drop i) (ys.drop i)=0:=by
 rcases h with h|h
 ·rw[z0 h,af9]; intros; contradiction
 ·rw[z0 h]; cases xs.drop i<;>rw[af9]<;>intros<;>contradiction
theorem gn1 (l:List Part)(i:Nat)(h:i<l.length):(l.map Part.cs).getD i []=Part.cs l[i]:=by simp[zf,h]
theorem gn2 {σ:Store}{id i:Nat}{l:List Part}(ho:σ.obj id=ze (.row (l.map Part.cs).flatten))(h:i<l.length):dr4 (ze 2) (i*2) (σ.obj id)=ze (.agg (Part.cs l[i])):=by
 have hall:∀ e∈l.map Part.cs,e.length=2:=fun e he=>(bd5 l e he).1
 have hlen:=as6 hall;rw[za] at hlen;have hp:=ay5 hall i (by rw[za]; exact h);rw[ho];simp only[dr4];have h1:i*2+2<=l.length*2:=om
 rw[if_pos (by rw[zr,hlen]; omega),hp,gn1 l i h]
theorem cc3 (a b:Str)(ha:a.length<2^30)(hb:b.length<2^30):PC Tryz.prog EE 168 [.str a,.str b] (.int .i64 (ao6 a b)):=by
 refine ae5 hE fok168 (nZ rfl) (al3 (.str _) (.str _)) ?_;have la:=bh7 a;have lb:=bh7 b;simp only[ic168,go_sem];refine ad3 fok216 (dn3 a ha _) ?_;rintro v1 s1 ⟨-,n1,g1,-⟩;refine ⟨n1,?_⟩;have n1:2<=s1.next:=n1;have ap1:=am4 (nid:=0) (e:=[IV.int .u8 2,IV.str []]) g1 (bd5 _) ⟨rfl,rfl⟩ (by rw[za]; omega);simp only[go_sem,ap1];have hl1:∀ e∈(vL a).map Part.cs,e.length=2:=fun e he=>(bd5 _ e he).1
 have r1:((ab7 a).map Part.cs++[[IV.int .u8 2,IV.str []]]).flatten=((vL a).map Part.cs).flatten:=by rw[zg]; rfl
 have r2:((ab7 b).map Part.cs++[[IV.int .u8 2,IV.str []]]).flatten=((vL b).map Part.cs).flatten:=by rw[zg]; rfl
 rw[r1];refine ad3 fok216 (dn3 b hb _) ?_;rintro v2 s2 ⟨o2,n2,g2,h2⟩;refine ⟨n2,?_⟩;have n2:2<=s2.next:=by rw[aa7,ac9] at n2; omega
 have ap2:=am4 (nid:=1) (e:=[IV.int .u8 2,IV.str []]) g2 (bd5 _) ⟨rfl,rfl⟩ (by rw[za]; omega)
 have q0:s2.obj 0=ze (.row ((vL a).map Part.cs).flatten):=by
  rw[o2 0 (by rw[aa7,ac9]; omega)];simp only[aa5,if_true]
 have q1:(ag2 v2 s2).obj 0=ze (.row ((vL a).map Part.cs).flatten):=by
  rcases g2 with ⟨rfl,_⟩|⟨id,rfl,_,_⟩
  ·exact q0
  ·have:=h2 _ _ rfl;rw[aa7,ac9] at this;show (if 0=id then z6 else s2.obj 0)=_;rw[if_neg om]; exact q0
 rw[r2] at ap2;simp only[go_sem,ap2];generalize hS:(ag2 v2 s2).put 1 (.row ((vL b).map Part.cs).flatten)=S;have k0:S.obj 0=ze (.row ((vL a).map Part.cs).flatten):=by rw[<- hS]; exact q1
 have k1:S.obj 1=ze (.row ((vL b).map Part.cs).flatten):=by rw[<- hS]; simp only[aa5,if_true]
 clear hS ap1 ap2
 have hmin:(if ((ab7 b).length+1:Nat)<(((ab7 a).length+1:Nat):Int) then (((ab7 b).length+1:Nat):Int) else (((ab7 a).length+1:Nat):Int))=((min (vL a).length (vL b).length:Nat):Int):=by
  simp only[zd,zj,zw];split<;>omega
 rw[hmin];have hA:(ab7 a).length+1=(vL a).length:=by simp
 have hB:(ab7 b).length+1=(vL b).length:=by simp
 rw[hA,hB];have hNa:min (vL a).length (vL b).length<=(vL a).length:=Nat.min_le_left _ _;have hNb:min (vL a).length (vL b).length<=(vL b).length:=Nat.min_le_right _ _;have hN:(vL a).length<=min (vL a).length (vL b).length\/(vL b).length<=min (vL a).length (vL b).length:=om
 have hsm:min (vL a).length (vL b).length<2^40:=by rw[<- hA] at hNa; omega
 generalize min (vL a).length (vL b).length=N at *;refine ab1 noT (fun i fr s=>fr=[(5,.slice 0 0 (vL a).length 2),(6,.slice 1 0 (vL b).length 2),(23,.int .i64 N),(24,.int .i64 i)]/\s.obj=S.obj/\ao6 a b=af9 ((vL a).drop i) ((vL b).drop i)) N ⟨rfl,rfl,rfl⟩ ?_;rintro i fr s hle ⟨rfl,hs,hI⟩;by_cases hlt:i<N
 ·have c1:(i:Int)<N:=om
  have c2:(0:Int)<=i:=om
  have ia:i<(vL a).length:=om
  have ib:i<(vL b).length:=om
  have c3:(i:Int)<(vL a).length:=om
  have c4:(i:Int)<(vL b).length:=om
  have w1:=ac4 (i:=i) om;have l0:=gn2 k0 ia;have l1:=gn2 k1 ib;rw[cc2 ia ib] at hI;have hp:=ft6 (vL a)[i] (vL b)[i] (by have:=jk5 a _ (zs ia); omega) (by have:=jk5 b _ (zs ib); omega);generalize (vL a)[i]=x at *;generalize (vL b)[i]=y at *;simp only[go_sem,c1,c2,c3,c4,hs,l0,l1];refine aa3 fok217 hp ?_;by_cases hz:ae8 x y=0
  ·simp only[go_sem,hz,w1];rw[hz,if_neg (by simp)] at hI;exact ⟨hlt,hI⟩
  ·rw[if_pos hz] at hI;simp only[go_sem,hz];rw[hI]; exact ad1 _ _
 ·have hi':i=N:=om
  subst hi';have c1:¬ (i:Int)<i:=om
  rw[cq9 hN] at hI;simp only[go_sem,c1];rw[hI]; exact ad1 _ _
end Go.Id.Tryz
