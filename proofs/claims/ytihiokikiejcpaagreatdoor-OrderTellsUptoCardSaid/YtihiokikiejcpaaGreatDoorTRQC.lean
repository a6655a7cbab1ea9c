/- Pools: how they are made. Conditions: none. -/
import Derived.Test.YtihiokikiejcpaaGreatDoorTRPE
import Derived.Test.YtihiokikiejcpaaGreatDoorMb
import Derived.Test.YtihiokikiejcpaaGreatDoorMv
import Derived.Test.YtihiokikiejcpaaGreatDoorFwQ
set_option linter.all false
namespace Go.Id.Tryz
open Go Go.Id Go.Proofs Go.Id.Md
theorem bn2 (r:bb9):r.cs.length=17:=by unfold bb9.cs; rw[List.length_append]; rfl
theorem cp7 (r:bb9):r.cs.all IV.leaf=true:=by unfold bb9.cs; rw[List.all_append]; rfl
theorem ej1 (r:bb9):∀ c∈r.cs,Bnd 0 c:=by
 intro c hc;unfold bb9.cs at hc;rcases List.mem_append.1 hc with h|h
 ·exact az8 _ c h
 ·simp only[List.mem_cons,List.not_mem_nil,or_false] at h;rcases h with rfl|rfl<;>exact .int _ _
theorem gm1 {s s':Store}{v:IV}{esz:Nat}{es:List (List IV)}(h:Grow s v esz es):cq3 0 s' v=some (.int .i64 es.length):=by
 rcases h with ⟨rfl,rfl⟩|⟨id,rfl,_⟩<;>rfl
structure PS (s:Store) (pp mid:Nat) (rows:List bb9) (inst:Int) (L:NmL) (rv:IV) (B:Nat):Prop where
 cell:s.obj pp=some (.cells [rv,.int .i64 inst,.map mid])
 grow:Grow s rv 17 (rows.map bb9.cs)
 map:s.obj mid=some (.map (mEs L))
 row:∀ t∈L,s.obj t.2.2=some (.row (t.2.1.map af9).flatten)/\t.2.2<s.next/\t.2.1.length<=B
 ids:(L.map (·.2.2)).Nodup
 keys:(L.map (·.1)).Nodup
 ne:∀ id n,rv=.slice id 0 n 17->∀ t∈L,t.2.2≠id
 lt:pp<s.next/\mid<s.next
theorem PS.mono {s s':Store}{pp mid:Nat}{rows:List bb9}{inst:Int}{L:NmL}{rv:IV}{B:Nat}(h:PS s pp mid rows inst L rv B)(hn:s.next<=s'.next)(ho:∀ i,i<s.next->s'.obj i=s.obj i):PS s' pp mid rows inst L rv B where
 cell:=by rw[ho _ h.lt.1]; exact h.cell
 grow:=h.grow.mono hn fun id _ hid=>ho id hid
 map:=by rw[ho _ h.lt.2]; exact h.map
 row:=fun t ht=>⟨by rw[ho _ (h.row t ht).2.1]; exact (h.row t ht).1,by have:=(h.row t ht).2.1; omega,(h.row t ht).2.2⟩
 ids:=h.ids
 keys:=h.keys
 ne:=h.ne
 lt:=⟨by have:=h.lt.1; omega,by have:=h.lt.2; omega⟩
theorem di4 (l:List Int):∀ e∈l.map Md.af9,e.length=1/\e.all IV.leaf=true:=fun e he=>by
 obtain ⟨x,_,rfl⟩:=List.mem_map.1 he;exact ⟨rfl,rfl⟩
theorem ej2 (l:List bb9):∀ e∈l.map bb9.cs,e.length=17/\e.all IV.leaf=true:=fun e he=>by
 obtain ⟨x,_,rfl⟩:=List.mem_map.1 he;exact ⟨bn2 x,cp7 x⟩
theorem PS.name {s:Store}{pp mid:Nat}{rows:List bb9}{inst:Int}{L:NmL}{rv:IV}{B:Nat}(h:PS s pp mid rows inst L rv B)(k:Str)(n:Int)(m nid:Nat)(hm:s.next<=m)(hnew:s.next<=nid)(hb:B<2^30) :
  ∃ s1,an5 ⟨m,s.obj⟩ nid 1 (dg2 L k) (.aa3 [[.int .i64 n]])=some (.slice nid 0 ((db3 L k).length+1) 1,s1)/\s1.next=m/\s1.obj mid=some (.map (mEs L))/\(∀ i cs,i<s.next->s.obj i=some (.cells cs)->s1.obj i=some (.cells cs)) /\
   ∀ nx,nid<nx->PS ⟨nx,(s1.put mid (.map (mEs (cg8 L k n nid)))).obj⟩ pp mid rows inst (cg8 L k n nid) rv (B+1):=by
 have hg0:Grow s (dg2 L k) 1 ((db3 L k).map Md.af9):=by
  rcases bt5 L k with ⟨h1,h2⟩|⟨t,ht,_,h1,h2⟩
  ·rw[h1,h2]; exact .inl ⟨rfl,rfl⟩
  ·rw[h1,h2]; exact .inr ⟨t.2.2,by rw[List.length_map],(h.row t ht).1,(h.row t ht).2.1⟩
 have hg:Grow ⟨m,s.obj⟩ (dg2 L k) 1 ((db3 L k).map Md.af9):=Grow.mono (σ:=s) hg0 hm fun _ _ _=>rfl
 have hlen:(db3 L k).length<=B:=by
  rcases bt5 L k with ⟨h1,h2⟩|⟨t,ht,_,h1,h2⟩
  ·rw[h2]; exact Nat.zero_le _
  ·rw[h2]; exact (h.row t ht).2.2
 have hap:=aj6 (nid:=nid) (e:=[.int .i64 n]) hg (di4 _) ⟨rfl,rfl⟩ (by rw[List.length_map]; omega);rw[List.length_map] at hap;have hmid:¬ mid=nid:=by have:=h.lt.2; omega
 have hpp:¬ pp=nid:=by have:=h.lt.1; omega
 have hpm:¬ pp=mid:=fun e=>by have h1:=h.cell; have h2:=h.map; rw[e,h2] at h1; cases h1
 have km:=af7 hg mid _ h.map (fun _ e=>by cases e);have kp:=af7 hg pp _ h.cell (fun _ e=>by cases e)
 have kother:∀ i cs,s.obj i=some (.row cs)->(∀ t∈L,t.1=k->t.2.2≠i)->(ad7 (dg2 L k) ⟨m,s.obj⟩).obj i=some (.row cs):=by
  intro i cs hi hne;rcases bt5 L k with ⟨h1,_⟩|⟨t,ht,hk,h1,_⟩
  ·rw[h1]; exact hi
  ·rw[h1];show (if i=t.2.2 then none else s.obj i)=_;rw[if_neg (fun e=>hne t ht hk e.symm)]; exact hi
 refine ⟨_,hap,by rw[aa6,ac1],by rw[aa2,if_neg hmid]; exact km,fun i cs hi h=>by rw[aa2,if_neg (by omega)]; exact af7 hg i _ h (fun _ e=>by cases e),fun nx hnx=>?_⟩;have hrow_ne_mid:∀ i cs,s.obj i=some (.row cs)->¬ i=mid:=fun i cs hi e=>by subst e; rw[h.map] at hi; cases hi
 exact {
  cell:=by
   show (if pp=mid then _ else if pp=nid then _ else (ad7 (dg2 L k) ⟨m,s.obj⟩).obj pp)=_;rw[if_neg hpm,if_neg hpp]; exact kp
  grow:=by
   rcases h.grow with h1|⟨id,hv,ho,hlt⟩
   ·exact .inl h1
   ·refine .inr ⟨id,hv,?_,by show id<nx; omega⟩;show (if id=mid then _ else if id=nid then _ else (ad7 (dg2 L k) ⟨m,s.obj⟩).obj id)=_;rw[if_neg (hrow_ne_mid _ _ ho),if_neg (by omega)];exact kother id _ ho fun t ht _=>h.ne id _ hv t ht
  map:=by
   show (if mid=mid then _ else _)=_;rw[if_pos rfl]
  row:=by
   intro t ht;rcases dg3 h.keys t ht with ⟨h1,h2⟩|rfl
   ·obtain ⟨r1,r2,r3⟩:=h.row t h1;refine ⟨?_,by show t.2.2<nx; omega,by omega⟩;show (if t.2.2=mid then _ else if t.2.2=nid then _ else (ad7 (dg2 L k) ⟨m,s.obj⟩).obj t.2.2)=_;rw[if_neg (hrow_ne_mid _ _ r1),if_neg (by omega)];exact kother _ _ r1 fun u hu hk e=>h2 (by rw[<- fo6 h.keys h.ids u hu t h1 e]; exact hk)
   ·refine ⟨?_,hnx,?_⟩
    ·show (if nid=mid then _ else if nid=nid then _ else _)=_;rw[if_neg (fun e=>hmid e.symm),if_pos rfl,List.map_append];rfl
    ·show (db3 L k++[n]).length<=B+1;rw[List.length_append]; simp; exact hlen
  ids:=(fo5 L h.ids (fun hm=>by
   obtain ⟨t,ht,e⟩:=List.mem_map.1 hm;have:=(h.row t ht).2.1;have e':t.2.2=nid:=e;omega)).1
  keys:=(ef3 L h.keys).1
  ne:=by
   intro id m hv t ht;rcases dg3 h.keys t ht with ⟨h1,h2⟩|rfl
   ·exact h.ne id m hv t h1
   ·rcases h.grow with ⟨h1,_⟩|⟨id',hv',ho,hlt⟩
    ·rw[h1] at hv; cases hv
    ·rw[hv'] at hv;cases hv;show nid≠id;omega
  lt:=⟨by have:=h.lt.1; show pp<nx; omega,by have:=h.lt.2; show mid<nx; omega⟩ }
theorem is7 {σ:Store}{mid:Nat}{L:NmL}(h:σ.obj mid=some (.map (mEs L)))(k:Str):cl2 σ 2 .aa1 false (.map mid) (.str k)=some (dg2 L k):=by
 obtain ⟨r,h1,h2⟩:=he5 L k;simp only[cl2,ax7,h,h1,h2,Bool.false_eq_true,if_false]
theorem ih4 {σ:Store}{mid:Nat}{L:NmL}(h:σ.obj mid=some (.map (mEs L)))(k:Str)(n:Int)(nid:Nat):al7 σ 2 (.map mid) (.str k) (.slice nid 0 ((db3 L k).length+1) 1)=some (σ.put mid (.map (mEs (cg8 L k n nid)))):=by
 simp only[al7,h,ir4 L k n nid,Option.map]
theorem gm2 (x:aa4):x.cs.head? = some (.str x.name):=rfl
theorem bl1 (x:aa4):(x.cs++[IV.int .i64 0,IV.int .i64 0]).length=17:=rfl
theorem bl2 (x:aa4)(a:Int):(ap5 (x.cs++[IV.int .i64 0,IV.int .i64 0]) 15 [IV.int .i64 a]).length=17:=rfl
theorem bl3 (x:aa4)(a b:Int):ap5 (ap5 (x.cs++[IV.int .i64 0,IV.int .i64 0]) 15 [IV.int .i64 a]) 16 [IV.int .i64 b]=(bb9.mk x a b).cs:=rfl
theorem ft9 (r:bb9):r.cs.take 17=r.cs:=List.take_of_length_le (by rw[bn2]; exact Nat.le_refl _)
theorem PS.push {s:Store}{pp mid:Nat}{rows:List bb9}{inst:Int}{L:NmL}{rv:IV}{B:Nat}(h:PS s pp mid rows inst L rv B)(r:bb9)(m nid:Nat)(hm:s.next<=m)(hnew:s.next<=nid)(hb:rows.length<2^30) :
  ∃ s1,an5 ⟨m,s.obj⟩ nid 17 rv (.aa3 [r.cs])=some (.slice nid 0 (rows.length+1) 17,s1)/\s1.next=m/\s1.obj pp=s.obj pp /\
   ∀ nx,nid<nx->PS ⟨nx,(s1.put pp (.cells [.slice nid 0 (rows.length+1) 17,.int .i64 inst,.map mid])).obj⟩ pp mid (rows++[r]) inst L (.slice nid 0 (rows.length+1) 17) B:=by
 have hg:Grow ⟨m,s.obj⟩ rv 17 (rows.map bb9.cs):=Grow.mono (σ:=s) h.grow hm fun _ _ _=>rfl
 have hap:=aj6 (nid:=nid) (e:=r.cs) hg (ej2 rows) ⟨bn2 r,cp7 r⟩ (by rw[List.length_map]; omega);rw[List.length_map] at hap;have hmid:¬ mid=nid:=by have:=h.lt.2; omega
 have hpp:¬ pp=nid:=by have:=h.lt.1; omega
 have hmp:¬ mid=pp:=fun e=>by have h1:=h.cell; have h2:=h.map; rw[<- e,h2] at h1; cases h1
 have km:=af7 hg mid _ h.map (fun _ e=>by cases e);have kp:=af7 hg pp _ h.cell (fun _ e=>by cases e);refine ⟨_,hap,by rw[aa6,ac1],by rw[aa2,if_neg hpp,kp,h.cell],fun nx hnx=>?_⟩
 exact {
  cell:=by
   show (if pp=pp then _ else _)=_;rw[if_pos rfl]
  grow:=by
   refine .inr ⟨nid,by rw[List.map_append,List.length_append,List.length_map]; rfl,?_,hnx⟩;show (if nid=pp then _ else if nid=nid then _ else _)=_;rw[if_neg (fun e=>hpp e.symm),if_pos rfl,List.map_append]; rfl
  map:=by
   show (if mid=pp then _ else if mid=nid then _ else (ad7 rv ⟨m,s.obj⟩).obj mid)=_;rw[if_neg hmp,if_neg hmid]; exact km
  row:=by
   intro t ht;obtain ⟨r1,r2,r3⟩:=h.row t ht;refine ⟨?_,by show t.2.2<nx; omega,r3⟩;have e1:¬ t.2.2=pp:=fun e=>by rw[e,h.cell] at r1; cases r1
   show (if t.2.2=pp then _ else if t.2.2=nid then _ else (ad7 rv ⟨m,s.obj⟩).obj t.2.2)=_;rw[if_neg e1,if_neg (by omega)];rcases h.grow with ⟨hv,_⟩|⟨id,hv,ho,hlt⟩
   ·rw[hv]; exact r1
   ·rw[hv];show (if t.2.2=id then none else s.obj t.2.2)=_;rw[if_neg (h.ne id _ hv t ht)]; exact r1
  ids:=h.ids
  keys:=h.keys
  ne:=by
   intro id m hv t ht;cases hv;have:=(h.row t ht).2.1;omega
  lt:=⟨by have:=h.lt.1; show pp<nx; omega,by have:=h.lt.2; show mid<nx; omega⟩ }
def ja9 (n pp mid:Nat)(rows:List bb9)(inst:Int)(nm:Nms)(l:List aa4)(ef4 prio:Int):IV->Store->Prop:=fun v s=>
 n<=s.next/\((l.all ah1=true/\v=.int .i64 0/\∃ L rv,cd9 L=cr7 nm rows.length l/\PS s pp mid (rows++rowsOf l ef4 prio) inst L rv (rows.length+l.length))\/(l.all ah1=false/\v=.int .i64 4))
theorem ih5 (l:List aa4)(hl:l.length<2^20)(hf:∀ p∈l,p.Fit)(ef4 prio:Int)(σ:Store)(pp mid:Nat)(rows:List bb9)(hr:rows.length<2^20)(inst:Int)(L:NmL)(rv:IV)(hp:PS σ pp mid rows inst L rv rows.length) :
  C Tryz.prog EE 13 [.ptr pp 0,.aa3 (l.map aa4.cs),.int .i64 ef4,.int .i64 prio] σ (ja9 σ.next pp mid rows inst (cd9 L) l ef4 prio):=by
 refine C_f fok13 (nZ rfl) ?_;simp only[ic13,go_sem]
 refine ab3 noT (fun i fr s=>fr=[(0,.ptr pp 0),(2,.int .i64 ef4),(3,.int .i64 prio),(11,.aa3 (l.map aa4.cs)),(12,.int .i64 l.length),(13,.int .i64 i)]/\σ.next<=s.next/\(l.take i).all ah1=true /\
  ∃ L' rv',cr7 (cd9 L') (rows.length+i) (l.drop i)=cr7 (cd9 L) rows.length l/\PS s pp mid (rows++rowsOf (l.take i) ef4 prio) inst L' rv' (rows.length+i)) l.length ⟨rfl,Nat.le_refl _,rfl,L,rv,rfl,by simpa [rowsOf] using hp⟩ ?_
 rintro i fr s hle ⟨rfl,hn,hall,L',rv',hnm,h⟩;by_cases hlt:i<l.length
 ·obtain ⟨x,hx,_,hdr,hget,htk⟩:=ae8 l i hlt;have c1:(i:Int)<l.length:=by omega
  have c2:(0:Int)<=i:=by omega
  have w1:=ad2 (i:=i) (by omega);simp only[go_sem,c1,c2,hget,al9,aj7,ah2];refine aa8 (ft5 x (hf x hx)) ?_
  cases hm:ah1 x with
  | false=>
   have:l.all ah1=false:=by rw[List.all_eq_false]; exact ⟨x,hx,by simp[hm]⟩
   simp only[go_sem]
   exact ⟨by simp only[aa6]; omega,.inr ⟨this,rfl⟩⟩
  | true=>
   generalize hS:Store.mk (s.next+1) _=S1;have hS1:S1.next=s.next+1:=by rw[<- hS]
   have hbx:S1.obj s.next=some (.cells x.cs):=by
    rw[<- hS]; simp only[aa2,if_true]
   have h1:PS S1 pp mid (rows++rowsOf (l.take i) ef4 prio) inst L' rv' (rows.length+i):=h.mono (by omega) fun j hj=>by
    have e:¬ j=s.next:=by omega
    rw[<- hS]; simp only[aa2,e,if_false]
   have hlen:=gm1 (s':=⟨S1.next+21,S1.obj⟩) h1.grow
   have hrl:((rows++rowsOf (l.take i) ef4 prio).map bb9.cs).length=rows.length+i:=by
    rw[List.length_map,List.length_append,rowsOf,List.length_map,List.length_take]; omega
   rw[hrl] at hlen;obtain ⟨s2,ha1,ha2,ha3,ha4,hps⟩:=h1.name x.name ((rows.length+i:Nat):Int) (S1.next+21) (S1.next+19) (by omega) (by omega) (by omega);have hlk:=is7 (σ:=⟨S1.next+21,S1.obj⟩) h1.map x.name;simp only[go_sem,Nat.add_assoc,h1.cell,hbx,hlen,gm2,hlk];rw[ha1];simp only[go_sem,Nat.add_assoc];rw[ih4 ha3 x.name ((rows.length+i:Nat):Int)];have h2:=hps (S1.next+21) (by omega);have hmb:¬ s.next=mid:=by have:=h.lt.2; omega
   have hb2:(s2.put mid (ak4.map (mEs (cg8 L' x.name ((rows.length+i:Nat):Int) (S1.next+19))))).obj s.next=some (.cells x.cs):=by
    simp only[aa2,hmb,if_false];exact ha4 _ _ (by omega) hbx
   have hn3:(s2.put mid (ak4.map (mEs (cg8 L' x.name ((rows.length+i:Nat):Int) (S1.next+19))))).next=S1.next+21:=ha2;generalize s2.put mid (ak4.map (mEs (cg8 L' x.name ((rows.length+i:Nat):Int) (S1.next+19))))=S3 at *;obtain ⟨s4,hb3,hb4,hb5,hps2⟩:=h2.push ⟨x,ef4,prio⟩ (S3.next+15) (S3.next+11) (by show S1.next+21<=_; omega) (by show S1.next+21<=_; omega) (by rw[List.length_append,rowsOf,List.length_map,List.length_take]; omega);have hc3:=h2.cell;simp only at hc3 hb3;simp only[go_sem,Nat.add_assoc,hc3,hb2,al9,aj7,ah2];refine aa8 (dc3 x (hf x hx)) ?_;simp only[go_sem,Nat.add_assoc,al9,aj7,ah2,bl1,bl2,bl3,bn2,cp7,ft9,List.append_nil,List.drop_nil];rw[hb3];have hc4:s4.obj pp=some (.cells [rv',.int .i64 inst,.map mid]):=by rw[hb5]; exact hc3
   simp only[go_sem,Nat.add_assoc,hc4,w1];have h5:=hps2 s4.next (by rw[hb4]; omega);refine ⟨hlt,by omega,?_,cg8 L' x.name ((rows.length+i:Nat):Int) (S1.next+19),.slice (S3.next+11) 0 ((rows++rowsOf (l.take i) ef4 prio).length+1) 17,?_,?_⟩
   ·rw[htk,List.all_append,hall]; simp[hm]
   rotate_left
   ·rw[htk,dy9,<- List.append_assoc];exact h5
   ·rw[<- hnm,hdr,cr7,gh9,<- Nat.add_assoc]
 ·have hi':i=l.length:=by omega
  subst hi';have c1:¬ (l.length:Int)<l.length:=by omega
  simp only[go_sem,c1];rw[List.take_length] at hall h;rw[List.drop_length] at hnm;exact ⟨hn,.inl ⟨hall,rfl,L',rv',hnm,h⟩⟩
def ak2.Fit (r:ak2):Prop:=r.packages.length<2^20/\∀ p∈r.packages,p.Fit
theorem gm3 (r:ak2):∀ c∈r.cs,Bnd 0 c:=by
 intro c hc;simp only[ak2.cs,List.mem_cons,List.not_mem_nil,or_false] at hc;rcases hc with rfl|rfl
 ·exact .int _ _
 ·exact .aa3 _ fun e he c hc=>by
   obtain ⟨p,_,rfl⟩:=List.mem_map.1 he; exact az8 p c hc
abbrev ao3 (l:List aa4):IV:=.aa3 (l.map aa4.cs)
abbrev be7 (l:List ak2):IV:=.aa3 (l.map ak2.cs)
theorem as7 (l:List aa4):Bnd 0 (ao3 l):=.aa3 _ fun e he c hc=>by
 obtain ⟨p,_,rfl⟩:=List.mem_map.1 he; exact az8 p c hc
theorem bv2 (l:List ak2):Bnd 0 (be7 l):=.aa3 _ fun e he c hc=>by
 obtain ⟨p,_,rfl⟩:=List.mem_map.1 he; exact gm3 p c hc
theorem an3 {P:IV->Prop}{u v:IV}(hu:P u)(hv:P v):∀ a∈[u,v],P a:=fun a ha=>by
 cases ha with
 | head=>exact hu
 | tail _ h=>cases h with
  | head=>exact hv
  | tail _ h=>cases h
theorem bv3 (r:ak2):r.cs.length=2:=rfl
theorem cp8 (r:ak2):r.cs.all IV.leaf=true:=rfl
theorem cp9 (r:ak2):r.cs.take 2=r.cs:=rfl
theorem di5 (l:List ak2)(i:Nat)(a:ak2)(h:l.drop i=a::l.drop (i+1)):ag6 (l.drop i)=a.packages.length+ag6 (l.drop (i+1)):=by
 rw[h]; simp[ag6]
theorem PS.frz {s:Store}{pp mid:Nat}{rows:List bb9}{inst:Int}{L:NmL}{rv:IV}{B:Nat}(h:PS s pp mid rows inst L rv B):dk5 s 0 (.ptr pp 0) (Pool.v ⟨rows,inst,cd9 L⟩):=by
 refine .ptr pp 0 _ _ (Nat.not_lt_zero _) (.inl h.cell) (Nat.le_refl _) fun j hj=>?_
 have hj3:j=0\/j=1\/j=2:=by simp only[List.length_cons,List.length_nil] at hj; omega
 rcases hj3 with rfl|rfl|rfl
 ·refine h.grow.frz (fun x hx=>(ej2 rows x hx).1) (fun _ _=>Nat.not_lt_zero _) fun e he c hc=>?_
  obtain ⟨r,_,rfl⟩:=List.mem_map.1 he;exact ej1 r c hc
 ·exact ac8 _ _
 ·have hat:∀ i,i<(mEs L).length->∃ t∈L,(mEs L).getD i (.undef,.undef)=(.str t.1,.slice t.2.2 0 t.2.1.length 1)/\(nmV (cd9 L)).getD i (.undef,.undef)=(.str t.1,.aa3 (t.2.1.map Md.af9)):=by
   intro i hi;have hi':i<L.length:=by simpa [mEs] using hi
   exact ⟨L[i],List.getElem_mem hi',by simp[mEs,List.getD_eq_getElem?_getD,hi'],by simp[nmV,cd9,List.getD_eq_getElem?_getD,hi']⟩
  refine .map mid (mEs L) (nmV (cd9 L)) (nmV (cd9 L)) (Nat.not_lt_zero _) h.map (by simp[nmV,cd9,mEs]) (List.Perm.refl _) ⟨?_,.str,fun e he=>?_⟩ (fun i hi=>?_) (fun i hi=>?_)
  ·have:(nmV (cd9 L)).map (·.1)=(L.map (·.1)).map IV.str:=by simp[nmV,cd9]
   rw[this];exact List.Pairwise.map _ (fun a b hab e=>hab (by cases e; rfl)) h.keys
  ·simp only[nmV,List.mem_map] at he;obtain ⟨t,_,rfl⟩:=he;trivial
  ·obtain ⟨t,ht,e1,e2⟩:=hat i hi;rw[e1,e2]; exact bd3 _
  ·obtain ⟨t,ht,e1,e2⟩:=hat i hi;rw[e1,e2];obtain ⟨r1,r2,_⟩:=h.row t ht;have hg:Grow s (.slice t.2.2 0 t.2.1.length 1) 1 (t.2.1.map Md.af9):=.inr ⟨t.2.2,by rw[List.length_map],r1,r2⟩;refine hg.frz (fun x hx=>(di4 _ x hx).1) (fun _ _=>Nat.not_lt_zero _) fun e he c hc=>?_
   obtain ⟨n,_,rfl⟩:=List.mem_map.1 he
   cases hc with
   | head=>exact .int _ _
   | tail _ h=>cases h
theorem di6 {s:Store}(n:Int):dk5 s 0 (.tuple [.af2,.int .i64 n]) (.tuple [.af2,.int .i64 n]):=.cn2 (.cons (.keep _ .af2) (.cons (ac8 _ _) .nil))
theorem cf5 (ab5:List ak2)(inst:List aa4)(h1:ab5.length<2^20)(h2:inst.length<2^20)(h3:ag6 ab5<2^40)(hr:∀ r∈ab5,ak2.Fit r)(hi:∀ p∈inst,p.Fit) :
  PC Tryz.prog EE 5 [be7 ab5,ao3 inst] (id7 (co5 ab5 inst)):=by
 refine ao4 hE fok5 (nZ rfl) (an3 (bv2 _) (as7 _)) ?_;simp only[ic5,go_sem];refine ab3 noT (fun i fr s=>∃ n:Nat,fr=[(0,be7 ab5),(1,ao3 inst),(6,.int .i64 n),(16,be7 ab5),(17,.int .i64 ab5.length),(18,.int .i64 i)]/\n+ag6 (ab5.drop i)=inst.length+ag6 ab5) ab5.length ⟨inst.length,rfl,rfl⟩ ?_;rintro i fr s hle ⟨n,rfl,hn⟩;by_cases hlt:i<ab5.length
 ·obtain ⟨a,ha,_,hdr,hget,htk⟩:=ae8 ab5 i hlt;have c1:(i:Int)<ab5.length:=by omega
  have c2:(0:Int)<=i:=by omega
  have w1:=ad2 (i:=i) (by omega);rw[di5 ab5 i a hdr] at hn
  have w2:IntKind.i64.wrap ((n:Int)+a.packages.length)=((n+a.packages.length:Nat):Int):=by
   rw[wrap64 (by omega) (by omega)]; omega
  simp only[go_sem,c1,c2,hget,bv3,cp9,cp8];simp only[go_sem,ak2.cs,w1,w2];exact ⟨hlt,n+a.packages.length,rfl,by omega⟩
 have hi':i=ab5.length:=by omega
 subst hi';have c1:¬ (ab5.length:Int)<ab5.length:=by omega
 have hn0:n=inst.length+ag6 ab5:=by rw[List.drop_length] at hn; simpa [ag6] using hn
 subst hn0;by_cases b1:16<ab5.length
 ·have b1':(16:Int)<ab5.length:=by omega
  simp only[go_sem,c1,b1',co5,b1,true_or];exact .cn2 (.cons (.keep _ .af2) (.cons (ac8 _ _) .nil))
 have b1':¬ (16:Int)<ab5.length:=by omega
 by_cases b2:256<inst.length+ag6 ab5
 ·have b2':(256:Int)<((inst.length+ag6 ab5:Nat):Int):=by omega
  simp only[go_sem,c1,b1',b2',co5,b1,b2,or_true];exact .cn2 (.cons (.keep _ .af2) (.cons (ac8 _ _) .nil))
 have b2':¬ (256:Int)<((inst.length+ag6 ab5:Nat):Int):=by omega
 simp only[go_sem,c1,b1',b2']
 have hp0:PS ⟨s.next+2,((Store.put ⟨s.next+2,s.obj⟩ s.next (ak4.map [])).put (s.next+1) (ak4.cells [.aa1,.int .i64 inst.length,.map s.next])).obj⟩ (s.next+1) s.next [] inst.length [] .aa1 0 :=
  {cell:=by simp only[aa2,if_true]
   grow:=.inl ⟨rfl,rfl⟩
   map:=by
    have e:¬ s.next=s.next+1:=by omega
    simp only[aa2,e,if_false,if_true]; rfl
   row:=fun t ht=>by cases ht
   ids:=List.nodup_nil
   keys:=List.nodup_nil
   ne:=fun _ _ h=>by cases h
   lt:=⟨by show s.next+1<s.next+2; omega,by show s.next<s.next+2; omega⟩ }
 refine ad3 fok13 (ih5 inst h2 hi (-1) 1025 _ (s.next+1) s.next [] (by decide) inst.length [] .aa1 hp0) ?_;rintro v s2 ⟨n2,⟨g1,rfl,L1,rv1,g2,g3⟩|⟨g1,rfl⟩⟩
 case inr=>
  refine ⟨n2,?_⟩;simp only[go_sem,co5,b1,b2,or_self,g1];exact di6 _
 refine ⟨n2,?_⟩
 have hres:co5 ab5 inst=match ag5 0 ab5 (rowsOf inst (-1) 1025,cr7 [] 0 inst) with
  | some (rows,nm)=>.inl ⟨rows,inst.length,nm⟩
  | none=>.inr 4:=by
  simp only[co5,b1,b2,or_self,if_false,g1,Bool.true_eq_false];rfl
 rw[hres];simp only[go_sem]
 refine ab3 noT (fun i fr t=>fr=[(9,.ptr (s.next+1) 0),(46,be7 ab5),(47,.int .i64 ab5.length),(48,.int .i64 i)]/\∃ rows L rv,PS t (s.next+1) s.next rows inst.length L rv rows.length /\
  ag5 0 ab5 (rowsOf inst (-1) 1025,cr7 [] 0 inst)=ag5 i (ab5.drop i) (rows,cd9 L)/\rows.length+ag6 (ab5.drop i)=inst.length+ag6 ab5) ab5.length ⟨rfl,rowsOf inst (-1) 1025,L1,rv1,?_,?_,?_⟩ ?_
 ·have e:(rowsOf inst (-1) 1025).length=0+inst.length:=by rw[bm4]; omega
  rw[e]; exact g3
 ·rw[g2]; rfl
 ·rw[bm4]; rfl
 rintro i fr t hle ⟨rfl,rows,L,rv,hp,hrf,hsum⟩;by_cases hlt:i<ab5.length
 ·obtain ⟨a,ha,_,hdr,hget,htk⟩:=ae8 ab5 i hlt;have c1:(i:Int)<ab5.length:=by omega
  have c2:(0:Int)<=i:=by omega
  have w1:=ad2 (i:=i) (by omega);rw[di5 ab5 i a hdr] at hsum;rw[hdr] at hrf;simp only[go_sem,c1,c2,hget,bv3,cp9,cp8];by_cases p1:a.priority<0
  ·simp only[go_sem,ak2.cs,p1];rw[hrf,ag5,if_pos (.inl p1)];exact di6 _
  by_cases p2:1024<a.priority
  ·simp only[go_sem,ak2.cs,p1,p2];rw[hrf,ag5,if_pos (.inr (.inl p2))];exact di6 _
  simp only[go_sem,ak2.cs,p1,p2]
  have hp1:PS ⟨t.next+1,((Store.put ⟨t.next+1,t.obj⟩ t.next (ak4.cells [.int .i64 0,.aa1])).put t.next (ak4.cells [.int .i64 a.priority,ao3 a.packages])).obj⟩ (s.next+1) s.next rows inst.length L rv rows.length:=hp.mono (Nat.le_succ _) fun j hj=>by
   have e:¬ j=t.next:=by omega
   simp only[aa2,e,if_false]
  refine ad3 fok13 (ih5 a.packages (hr a ha).1 (hr a ha).2 i a.priority _ (s.next+1) s.next rows (by omega) inst.length L rv hp1) ?_;rintro v s3 ⟨n3,⟨k1,rfl,L2,rv2,k2,k3⟩|⟨k1,rfl⟩⟩
  ·refine ⟨n3,?_⟩;simp only[go_sem,w1];refine ⟨hlt,rows++rowsOf a.packages i a.priority,L2,rv2,?_,?_,?_⟩
   ·rw[List.length_append,bm4]; exact k3
   ·rw[hrf,ag5,if_neg (by simp[p1,p2,k1]),k2]
   ·rw[List.length_append,bm4]; omega
  ·refine ⟨n3,?_⟩;simp only[go_sem];rw[hrf,ag5,if_pos (.inr (.inr k1))];exact di6 _
 have hi':i=ab5.length:=by omega
 subst hi';have c1:¬ (ab5.length:Int)<ab5.length:=by omega
 rw[List.drop_length] at hrf;simp only[go_sem,c1];rw[hrf,ag5];exact .cn2 (.cons hp.frz (.cons (ac8 _ _) .nil))
set_option maxRecDepth 100000
theorem fu1 (s:Str):PC Tryz.prog EE 160 [.str s] (.bool false):=by
 refine av1 fok160 (nZ rfl) fun σ=>?_
 simp only[ic160,go_sem,and_self,bne_self_eq_false,decide_true,Bool.not_true]
theorem fu2 (n:Int):PC Tryz.prog EE 159 [.int .u8 n] (.bool false):=by
 refine av1 fok159 (nZ rfl) fun σ=>?_
 simp only[ic159,go_sem,and_self,bne_self_eq_false,decide_true,Bool.not_true]
theorem fu3 (n:Int):PC Tryz.prog EE 35 [.int .i64 n] (.bool false):=by
 refine av1 fok35 (nZ rfl) fun σ=>?_
 simp only[ic35,go_sem,and_self,bne_self_eq_false,decide_true,Bool.not_true]
theorem di7 (a b:Int):PC Tryz.prog EE 18 [.int .i64 a,.int .i64 b] (.int .i64 (ao7 a b)):=by
 refine av1 fok18 (nZ rfl) fun σ=>?_
 simp only[ic18,go_sem];refine aa5 fok35 (fu3 a) ?_;simp only[go_sem];refine aa5 fok35 (fu3 b) ?_;simp only[go_sem];by_cases h1:a<b
 ·simp only[go_sem,h1,ao7,and_self]
 ·by_cases h2:b<a
  ·have h3:¬ a=b:=by omega
   simp only[go_sem,h1,h2,h3,ao7,and_self]
  ·have h3:a=b:=by omega
   subst h3;simp only[go_sem,h1,ao7,and_self,if_false,if_true]
theorem eb4 (a b:Int):PC Tryz.prog EE 154 [.int .u8 a,.int .u8 b] (.int .i64 (ao7 a b)):=by
 refine av1 fok154 (nZ rfl) fun σ=>?_
 simp only[ic154,go_sem];refine aa5 fok159 (fu2 a) ?_;simp only[go_sem];refine aa5 fok159 (fu2 b) ?_;simp only[go_sem];by_cases h1:a<b
 ·simp only[go_sem,h1,ao7,and_self]
 ·by_cases h2:b<a
  ·have h3:¬ a=b:=by omega
   simp only[go_sem,h1,h2,h3,ao7,and_self]
  ·have h3:a=b:=by omega
   subst h3;simp only[go_sem,h1,ao7,and_self,if_false,if_true]
theorem eb5 (a b:Str):PC Tryz.prog EE 155 [.str a,.str b] (.int .i64 (cj8 a b)):=by
 refine av1 fok155 (nZ rfl) fun σ=>?_
 simp only[ic155,go_sem];refine aa5 fok160 (fu1 a) ?_;simp only[go_sem];refine aa5 fok160 (fu1 b) ?_;simp only[go_sem]
 cases h1:Op.bytesLess a b with
 | true=>simp only[go_sem,h1,cj8,and_self]
 | false=>
  by_cases h3:a=b
  ·subst h3;simp only[go_sem,h1,cj8,and_self,Bool.false_eq_true,if_false,if_true,decide_true,Bool.or_true,Bool.not_true]
  ·simp only[go_sem,h1,h3,cj8,and_self,Bool.false_eq_true,if_false,decide_false,Bool.or_false,Bool.not_false]
def orM:List Int->Int
 | []=>0
 | a::l=>if a=0 then orM l else a
theorem hl8 (l:List Int)(hl:l.length<2^40):PC Tryz.prog EE 153 [.aa3 (l.map Md.af9)] (.int .i64 (orM l)):=by
 refine av1 fok153 (nZ rfl) fun σ=>?_
 simp only[ic153,go_sem];refine ab3 noT (fun i fr s=>fr=[(3,.int .i64 0),(6,.aa3 (l.map Md.af9)),(7,.int .i64 l.length),(8,.int .i64 i)]/\s=σ/\orM l=orM (l.drop i)) l.length ⟨rfl,rfl,rfl⟩ ?_;rintro i fr s hle ⟨rfl,rfl,hI⟩;by_cases hlt:i<l.length
 ·obtain ⟨x,hx,_,hdr,hget,htk⟩:=ae8 l i hlt;have c1:(i:Int)<l.length:=by omega
  have c2:(0:Int)<=i:=by omega
  have w1:=ad2 (i:=i) (by omega);rw[hdr,orM] at hI;by_cases e:x=0
  ·rw[if_pos e] at hI;subst e;simp only[go_sem,c1,c2,hget,Md.af9,w1];exact ⟨hlt,hI⟩
  ·rw[if_neg e] at hI;simp only[go_sem,c1,c2,hget,Md.af9,e,hI,and_self]
 ·have hi':i=l.length:=by omega
  subst hi';have c1:¬ (l.length:Int)<l.length:=by omega
  rw[List.drop_length,orM] at hI;simp only[go_sem,c1,hI,and_self]
theorem fu4 (n:Int)(h:n=-1\/n=0\/n=1):PC Tryz.prog EE 135 [.int .i64 n] (.int .u8 (if n<0 then 1 else if n=0 then 2 else 4)):=by
 rcases h with rfl|rfl|rfl
 all_goals
  refine ao4 hE fok135 (nZ rfl) (ah6 (.int _ _)) ?_;simp only[ic135,go_sem];exact .keep _ (.int _ _)
def vkN (n:Nat):Nat:=if n=126 then 1 else if n=94 then 3 else if 97<=n/\n<=122\/65<=n/\n<=90 then 4 else if 48<=n/\n<=57 then 5 else 0
theorem fu5 (b:UInt8):ac5 b=vkN b.toNat:=by
 have h:∀ n,n<256->ac5 (UInt8.ofNat n)=vkN n:=by decide +kernel
 have:=h b.toNat b.toNat_lt
 rwa [UInt8.ofNat_toNat] at this
theorem eb6 (b:UInt8):PC Tryz.prog EE 157 [.int .u8 b.toNat] (.int .u8 (ac5 b)):=by
 rw[fu5];have hb:=b.toNat_lt;generalize b.toNat=n at *;unfold vkN;refine ao4 hE fok157 (nZ rfl) (ah6 (.int _ _)) ?_;by_cases e1:n=126
 ·have e1':(n:Int)=126:=by omega
  rw[if_pos e1];simp only[ic157,go_sem,e1'];exact .keep _ (.int _ _)
 have e1':¬ (n:Int)=126:=by omega
 rw[if_neg e1];by_cases e2:n=94
 ·have e2':(n:Int)=94:=by omega
  have q:¬ (94:Int)=126:=by decide
  rw[if_pos e2];simp only[ic157,go_sem,e2',q];exact .keep _ (.int _ _)
 have e2':¬ (n:Int)=94:=by omega
 rw[if_neg e2];by_cases e3:97<=n/\n<=122
 ·have f1:(97:Int)<=n:=by omega
  have f2:(n:Int)<=122:=by omega
  rw[if_pos (.inl e3)];simp only[ic157,go_sem,e1',e2',f1,f2];exact .keep _ (.int _ _)
 by_cases e4:65<=n/\n<=90
 ·have f1:¬ (97:Int)<=n:=by omega
  have f3:(65:Int)<=n:=by omega
  have f4:(n:Int)<=90:=by omega
  rw[if_pos (.inr e4)];simp only[ic157,go_sem,e1',e2',f1,f3,f4];exact .keep _ (.int _ _)
 rw[if_neg (fun h=>h.elim e3 e4)];by_cases e5:48<=n/\n<=57
 ·have f1:¬ (97:Int)<=n:=by omega
  have f3:¬ (65:Int)<=n:=by omega
  have f5:(48:Int)<=n:=by omega
  have f6:(n:Int)<=57:=by omega
  rw[if_pos e5];simp only[ic157,go_sem,e1',e2',f1,f3,f5,f6];exact .keep _ (.int _ _)
 rw[if_neg e5];by_cases f1:(97:Int)<=n
 ·have f2:¬ (n:Int)<=122:=by omega
  have f3:(65:Int)<=n:=by omega
  have f4:¬ (n:Int)<=90:=by omega
  have f5:(48:Int)<=n:=by omega
  have f6:¬ (n:Int)<=57:=by omega
  simp only[ic157,go_sem,e1',e2',f1,f2,f3,f4,f5,f6];exact .keep _ (.int _ _)
 by_cases f3:(65:Int)<=n
 ·have f4:¬ (n:Int)<=90:=by omega
  have f5:(48:Int)<=n:=by omega
  have f6:¬ (n:Int)<=57:=by omega
  simp only[ic157,go_sem,e1',e2',f1,f3,f4,f5,f6];exact .keep _ (.int _ _)
 by_cases f5:(48:Int)<=n
 ·have f6:¬ (n:Int)<=57:=by omega
  simp only[ic157,go_sem,e1',e2',f1,f3,f5,f6];exact .keep _ (.int _ _)
 ·simp only[ic157,go_sem,e1',e2',f1,f3,f5];exact .keep _ (.int _ _)
theorem gm4 (s:Str)(hs:s.length<2^62)(c:UInt8):PC Tryz.prog EE 161 [.str s,.int .u8 c.toNat] (.str (s.dropWhile (· == c))):=by
 refine av1 fok161 (nZ rfl) fun σ=>?_
 simp only[ic161,go_sem];refine ab3 noT (fun i fr t=>fr=[(0,.str (s.drop i)),(1,.int .u8 c.toNat)]/\t=σ/\s.dropWhile (· == c)=(s.drop i).dropWhile (· == c)) s.length ⟨rfl,rfl,rfl⟩ ?_;rintro i fr t hle ⟨rfl,rfl,hI⟩;by_cases hlt:i<s.length
 ·obtain ⟨x,hx,hget,hdr,_,htk⟩:=ae8 s i hlt;have c1:(0:Int)<(s.length-i:Nat):=by omega
  have h0:(s.drop i)[0]? = some x:=by rw[hdr]; rfl
  by_cases e:x=c
  ·subst e;simp only[go_sem,List.length_drop,c1,aw8,Int.le_refl,Int.toNat_zero,h0,Option.map]
   have hsub:ch4 (some (.int .i64 1)) none (.str (s.drop i))=some (.str (s.drop (i+1))):=by
    rw[hdr];simp[ch4,bq4,cq2];exact List.take_of_length_le (by rw[List.length_drop]; omega)
   simp only[go_sem,hsub];refine ⟨hlt,?_⟩;rw[hI,hdr,List.dropWhile_cons,if_pos (by simp)]
  ·have e':¬ (x.toNat:Int)=c.toNat:=fun h=>e (UInt8.toNat_inj.1 (by omega))
   simp only[go_sem,List.length_drop,c1,aw8,Int.le_refl,Int.toNat_zero,h0,Option.map,e'];rw[hI,hdr,List.dropWhile_cons,if_neg (by simpa using e)]
 ·have hi':i=s.length:=by omega
  subst hi';rw[List.drop_length] at hI ⊢;simp only[go_sem,List.length_nil,hI,and_self,List.dropWhile_nil]
theorem gm5 (s:Str)(hs:s.length<2^62):PC Tryz.prog EE 158 [.str s,.str [48]] (.str (s.dropWhile (· == 48))):=by
 refine av1 fok158 (nZ rfl) fun σ=>?_
 simp only[ic158,go_sem];have ht:=gm4 s hs 48;by_cases h0:s=[]
 ·subst h0;simp only[go_sem,List.dropWhile_nil,and_self]
 ·have e1:dc9 (.str [48]) (.int .i64 0)=some (.int .u8 (48:UInt8).toNat):=rfl;have e2:((48:UInt8).toNat:Int)<128:=by decide
  simp only[go_sem,h0,e1,e2];refine aa5 fok161 ht ?_;simp only[go_sem,and_self]
def Part.cs (p:Part):List IV:=[.int .u8 p.kind,.str p.s]
theorem ik5 (a b c:Int):orM [a,b,c]=if a≠0 then a else if b≠0 then b else c:=by
 simp only[orM];by_cases h1:a=0<;>by_cases h2:b=0<;>by_cases h3:c=0<;>simp[h1,h2,h3]
theorem fb4 (a b:Part)(ha:a.s.length<2^62)(hb:b.s.length<2^62):PC Tryz.prog EE 151 [.agg (Part.cs a),.agg (Part.cs b)] (.int .i64 (af8 a b)):=by
 have bp:∀ p:Part,Bnd 0 (.agg (Part.cs p)):=fun p=>.agg _ fun c hc=>by
  simp only[Part.cs,List.mem_cons,List.not_mem_nil,or_false] at hc;rcases hc with rfl|rfl
  ·exact .int _ _
  ·exact .str _
 refine ao4 hE fok151 (nZ rfl) (an3 (bp a) (bp b)) ?_;by_cases h1:a.kind=5
 ·have g1:((a.kind:Nat):Int)=5:=by omega
  by_cases h2:b.kind=5
  ·have g2:((b.kind:Nat):Int)=5:=by omega
   simp only[ic151,go_sem,Part.cs,g1,g2]
   first|refine aa5 fok18 (di7 _ _) ?_|refine aa8 (di7 _ _) ?_
   simp only[go_sem];refine aa8 (eb4 _ _) ?_;simp only[go_sem];refine aa8 (eb5 _ _) ?_;simp only[go_sem];refine aa8 (hl8 [ao7 5 5,ao7 a.s.length b.s.length,cj8 a.s b.s] (by simp)) ?_;simp only[go_sem];have e:orM [ao7 5 5,ao7 a.s.length b.s.length,cj8 a.s b.s]=af8 a b:=by rw[ik5]; simp only[af8,h1,h2,and_self,if_true]; rfl
   rw[e]; exact ac8 _ _
  ·have g2:¬ ((b.kind:Nat):Int)=5:=by omega
   simp only[ic151,go_sem,Part.cs,g1,g2];refine aa8 (eb4 _ _) ?_;simp only[go_sem];refine aa8 (eb5 _ _) ?_;simp only[go_sem];refine aa8 (hl8 [ao7 5 b.kind,0,cj8 a.s b.s] (by simp)) ?_;simp only[go_sem];have e:orM [ao7 5 b.kind,0,cj8 a.s b.s]=af8 a b:=by rw[ik5]; simp only[af8,h1,h2,and_false,if_false]; rfl
   rw[e]; exact ac8 _ _
 ·have g1:¬ ((a.kind:Nat):Int)=5:=by omega
  simp only[ic151,go_sem,Part.cs,g1];refine aa8 (eb4 _ _) ?_;simp only[go_sem];refine aa8 (eb5 _ _) ?_;simp only[go_sem];refine aa8 (hl8 [ao7 a.kind b.kind,0,cj8 a.s b.s] (by simp)) ?_;simp only[go_sem];have e:orM [ao7 a.kind b.kind,0,cj8 a.s b.s]=af8 a b:=by rw[ik5]; simp only[af8,h1,false_and,if_false]
  rw[e]; exact ac8 _ _
end Go.Id.Tryz
set_option linter.all false
namespace Go.Id.Tryz
open Go Go.Id Go.Proofs Go.Id.Md
set_option maxRecDepth 100000
def evP (p:Part):List IV:=[.agg (Part.cs p)]
theorem gm6 (s:Str)(hs:s.length<2^62):cm9 Tryz.prog EE (.func (.func 156) [] [.ad4 [.str s]]) ((ab4 s).map evP) (fun _=>True):=by
 intro yid I S σ hown hstab hy hi;refine ⟨fok156.1,?_⟩;refine C_f fok156 (nZ rfl) ?_;simp only[ic156,go_sem];refine ab3 noT (fun j fr t=>∃ (at_:Nat) (tl:Frm),fr=(0,.yield yid)::(1,.ad4 [.str s])::(3,.int .i64 at_)::tl/\σ.next<=t.next/\j<=at_/\at_<=s.length/\I ((ab4 (s.drop at_)).map evP) t) s.length ⟨0,[],rfl,Nat.le_refl _,Nat.le_refl _,Nat.zero_le _,hi⟩ ?_;rintro j fr t hle ⟨a,tl,rfl,hn,hja,has,hI⟩;by_cases hlt:a<s.length
 ·obtain ⟨b,hb,hget,hdr,_,htk⟩:=ae8 s a hlt;have c1:(a:Int)<s.length:=by omega
  have c2:(0:Int)<=a:=by omega
  have w1:=ad2 (i:=a) (by omega);have hk:(4:Int)<=(ac5 b:Int)↔¬ ac5 b<4:=by omega
  simp only[go_sem,c1,aw8,c2,Int.toNat_natCast,hget,Option.map];refine aa8 (eb6 b) ?_;simp only[go_sem,w1];generalize hU:Store.put (Store.put _ t.next _) t.next _=U;have hUn:U.next=t.next+1:=by rw[<- hU]; rfl
  have hUb:U.obj t.next=some (.cells [.int .u8 (ac5 b),.str []]):=by rw[<- hU]; simp only[aa2,if_true]
  have hUI:∀ i,i<t.next->U.obj i=t.obj i:=fun i hi=>by
   have e:¬ i=t.next:=by omega
   rw[<- hU]; simp only[aa2,e,if_false]
  clear hU;have hUe:(⟨t.next+1,U.obj⟩:Store)=U:=by rw[<- hUn]
  rw[hUe];have hdl:(s.drop (a+1)).length=s.length-(a+1):=List.length_drop;have hrl:=gs8 b (s.drop (a+1));generalize hR:(if ac5 b<4 then 0 else fd5 b (s.drop (a+1)))=R
  have hRl:a+1+R<=s.length:=by
   rw[<- hR]; split<;>omega
  refine ab3 noT (fun m fr u=>fr=[(0,.yield yid),(1,.ad4 [.str s]),(3,.int .i64 ((a+1+m:Nat):Int)),(4,.ptr t.next 0),(5,.int .i64 a)]/\t.next+1<=u.next/\u.obj t.next=some (.cells [.int .u8 (ac5 b),.str []])/\∀ i,i<t.next->u.obj i=t.obj i) R ⟨rfl,by omega,hUb,hUI⟩ ?_;clear hUe hUn hUb hUI;rintro m fr u hmR ⟨rfl,hUn,hUb,hUI⟩;have w2:=ad2 (i:=a+1+m) (by omega);have d2:(0:Int)<=((a+1+m:Nat):Int):=by omega
  by_cases hm:m<R
  ·have h4:¬ ac5 b<4:=fun h=>by rw[if_pos h] at hR; omega
   rw[if_neg h4] at hR;obtain ⟨c,hc1,hc2⟩:=gs6 (b:=b) (l:=s.drop (a+1)) (m:=m) (by omega);have hc:s[a+1+m]? = some c:=by rw[<- hc1,List.getElem?_drop]
   have k1:(4:Int)<=ac5 b:=by omega
   have k2:((a+1+m:Nat):Int)<s.length:=by omega
   have k3:=eb6 c;rw[hc2] at k3;simp only[go_sem,hUb,k1,k2,aw8,d2,Int.toNat_natCast,hc,Option.map];refine aa8 k3 ?_;simp only[go_sem,hUb,w2];exact ⟨hm,rfl,by omega,hUI⟩
  ·have hmR:m=R:=by omega
   subst hmR;by_cases h4:ac5 b<4
   ·have k1:¬ (4:Int)<=ac5 b:=by omega
    rw[if_pos h4] at hR;subst hR;have k5:¬ ((ac5 b:Nat):Int)=5:=by omega
    have hUI2:I ((ab4 (s.drop a)).map evP) ⟨u.next+18,u.obj⟩:=hstab _ _ _ hI (by show t.next<=u.next+18; omega) hUI;rw[hdr] at hUI2;by_cases h0:ac5 b=0
    ·have k0:((ac5 b:Nat):Int)=0:=by omega
     rw[eg6 h0] at hUI2;have k6:¬ (0:Int)=5:=by omega
     simp only[go_sem,hUb,k1,k5,k0,k6];exact ⟨by omega,a+1,_,rfl,by omega,by omega,by omega,hUI2⟩
    ·have k0:¬ ((ac5 b:Nat):Int)=0:=by omega
     rw[eg7 h0 h4,List.map_cons] at hUI2;simp only[go_sem,hUb,k1,k5,k0];refine bx4 hy hUI2 (fun s1 n1 i1=>?_) (fun s1 n1 h1=>?_)
     ·have n1':u.next+18<=s1.next:=n1;simp only[go_sem];exact ⟨by omega,a+1,_,rfl,by omega,by omega,by omega,i1⟩
     ·have n1':u.next+18<=s1.next:=n1;simp only[go_sem];exact ⟨by omega,.inr h1⟩
   ·have k1:(4:Int)<=ac5 b:=by omega
    rw[if_neg h4] at hR
    have key:∀ s1:Store,t.next<=s1.next->(∀ i,i<t.next->s1.obj i=t.obj i)->I (evP ⟨ac5 b,if ac5 b=5 then ((s.drop a).take (m+1)).dropWhile (· == 48) else (s.drop a).take (m+1)⟩::(ab4 (s.drop (a+1+m))).map evP) s1:=fun s1 h1 h2=>by
     have:=hstab _ _ _ hI h1 h2;rw[hdr,eg8 h4,List.map_cons,hR,<- hdr,List.drop_drop] at this;exact this
    have hss:ch4 (some (.int .i64 a)) (some (.int .i64 ((a+1+m:Nat):Int))) (.str s)=some (.str ((s.drop a).take (m+1))):=by
     have e1:(0:Int)<=a:=by omega
     have e2:a<=a+1+m/\a+1+m<=s.length:=by omega
     simp only[ch4,bq4,cq2,e1,d2,if_true,Int.toNat_natCast,e2,and_self];rw[List.drop_take];congr 3; omega
    have k0:¬ ((ac5 b:Nat):Int)=0:=by omega
    have ht:=gm5 ((s.drop a).take (m+1)) (by rw[List.length_take,List.length_drop]; omega);by_cases hend:a+1+m<s.length
    ·have k2:((a+1+m:Nat):Int)<s.length:=by omega
     have hc:s[a+1+m]? = some s[a+1+m]:=List.getElem?_eq_getElem hend;have hne:ac5 s[a+1+m]≠ac5 b:=gs7 (l:=s.drop (a+1)) (by rw[hR,List.getElem?_drop]; exact hc);have k7:¬ ((ac5 s[a+1+m]:Nat):Int)=ac5 b:=by omega
     simp only[go_sem,hUb,k1,k2,aw8,d2,Int.toNat_natCast,hc,Option.map];refine aa8 (eb6 _) ?_;simp only[go_sem,hUb,k1,k7,hss];by_cases h5:ac5 b=5
     ·have k5:((ac5 b:Nat):Int)=5:=by omega
      have key5:∀ s1:Store,t.next<=s1.next->(∀ i,i<t.next->s1.obj i=t.obj i)->I ([IV.agg [.int .u8 5,.str (((s.drop a).take (m+1)).dropWhile (· == 48))]]::(ab4 (s.drop (a+1+m))).map evP) s1:=fun s1 h1 h2=>by
       have:=key s1 h1 h2;rw[if_pos h5] at this;simp only[evP,Part.cs,k5] at this;exact this
      have k6:¬ (5:Int)=0:=by omega
      simp only[go_sem,hUb,k5];refine aa5 fok158 ht ?_;simp only[go_sem,hUb,k5,k6];refine bx4 hy (key5 _ (by simp only[aa6]; omega) fun i hi=>?_) (fun s1 n1 i1=>?_) (fun s1 n1 h1=>?_)
      ·have:¬ i=t.next:=by omega
       simp only[aa2,this,if_false]; exact hUI i hi
      ·have n1':u.next+18<=s1.next:=n1;simp only[go_sem];exact ⟨by omega,a+1+m,_,rfl,by omega,by omega,by omega,i1⟩
      ·have n1':u.next+18<=s1.next:=n1;simp only[go_sem];exact ⟨by omega,.inr h1⟩
     ·have k5:¬ ((ac5 b:Nat):Int)=5:=by omega
      have key5:∀ s1:Store,t.next<=s1.next->(∀ i,i<t.next->s1.obj i=t.obj i)->I ([IV.agg [.int .u8 (ac5 b),.str ((s.drop a).take (m+1))]]::(ab4 (s.drop (a+1+m))).map evP) s1:=fun s1 h1 h2=>by
       have:=key s1 h1 h2;rw[if_neg h5] at this;exact this
      simp only[go_sem,hUb,k5,k0];refine bx4 hy (key5 _ (by simp only[aa6]; omega) fun i hi=>?_) (fun s1 n1 i1=>?_) (fun s1 n1 h1=>?_)
      ·have:¬ i=t.next:=by omega
       simp only[aa2,this,if_false]; exact hUI i hi
      ·have n1':u.next+18<=s1.next:=n1;simp only[go_sem];exact ⟨by omega,a+1+m,_,rfl,by omega,by omega,by omega,i1⟩
      ·have n1':u.next+18<=s1.next:=n1;simp only[go_sem];exact ⟨by omega,.inr h1⟩
    ·have k2:¬ ((a+1+m:Nat):Int)<s.length:=by omega
     simp only[go_sem,hUb,k1,k2,hss];by_cases h5:ac5 b=5
     ·have k5:((ac5 b:Nat):Int)=5:=by omega
      have key5:∀ s1:Store,t.next<=s1.next->(∀ i,i<t.next->s1.obj i=t.obj i)->I ([IV.agg [.int .u8 5,.str (((s.drop a).take (m+1)).dropWhile (· == 48))]]::(ab4 (s.drop (a+1+m))).map evP) s1:=fun s1 h1 h2=>by
       have:=key s1 h1 h2;rw[if_pos h5] at this;simp only[evP,Part.cs,k5] at this;exact this
      have k6:¬ (5:Int)=0:=by omega
      simp only[go_sem,hUb,k5];refine aa5 fok158 ht ?_;simp only[go_sem,hUb,k5,k6];refine bx4 hy (key5 _ (by simp only[aa6]; omega) fun i hi=>?_) (fun s1 n1 i1=>?_) (fun s1 n1 h1=>?_)
      ·have:¬ i=t.next:=by omega
       simp only[aa2,this,if_false]; exact hUI i hi
      ·have n1':u.next+18<=s1.next:=n1;simp only[go_sem];exact ⟨by omega,a+1+m,_,rfl,by omega,by omega,by omega,i1⟩
      ·have n1':u.next+18<=s1.next:=n1;simp only[go_sem];exact ⟨by omega,.inr h1⟩
     ·have k5:¬ ((ac5 b:Nat):Int)=5:=by omega
      have key5:∀ s1:Store,t.next<=s1.next->(∀ i,i<t.next->s1.obj i=t.obj i)->I ([IV.agg [.int .u8 (ac5 b),.str ((s.drop a).take (m+1))]]::(ab4 (s.drop (a+1+m))).map evP) s1:=fun s1 h1 h2=>by
       have:=key s1 h1 h2;rw[if_neg h5] at this;exact this
      simp only[go_sem,hUb,k5,k0];refine bx4 hy (key5 _ (by simp only[aa6]; omega) fun i hi=>?_) (fun s1 n1 i1=>?_) (fun s1 n1 h1=>?_)
      ·have:¬ i=t.next:=by omega
       simp only[aa2,this,if_false]; exact hUI i hi
      ·have n1':u.next+18<=s1.next:=n1;simp only[go_sem];exact ⟨by omega,a+1+m,_,rfl,by omega,by omega,by omega,i1⟩
      ·have n1':u.next+18<=s1.next:=n1;simp only[go_sem];exact ⟨by omega,.inr h1⟩
 ·have ha:a=s.length:=by omega
  subst ha;have c1:¬ (s.length:Int)<s.length:=by omega
  rw[List.drop_length] at hI;simp only[go_sem,c1];exact ⟨hn,.inl hI⟩
end Go.Id.Tryz
