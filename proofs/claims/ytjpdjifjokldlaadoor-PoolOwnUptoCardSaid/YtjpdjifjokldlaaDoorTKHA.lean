/- Pools: how they are made. Conditions: none. -/
import Derived.Test.YtjpdjifjokldlaaDoorTKPE
import Derived.Test.YtjpdjifjokldlaaDoorMq
import Derived.Test.YtjpdjifjokldlaaDoorFwTf
set_option linter.all false
namespace Go.Id.Tryd
open Go Go.Id Go.Proofs Go.Id.Md
theorem az6 (r:av6):r.cs.length=17:=by unfold av6.cs; rw[List.length_append]; rfl
theorem bb8 (r:av6):r.cs.all IV.leaf=true:=by unfold av6.cs; rw[List.all_append]; rfl
theorem dx1 (r:av6):∀ c∈r.cs,Bnd 0 c:=by
 intro c hc;unfold av6.cs at hc;rcases List.mem_append.1 hc with h|h
 ·exact bx8 _ c h
 ·simp only[List.mem_cons,List.not_mem_nil,or_false] at h;rcases h with rfl|rfl<;>exact .int _ _
theorem cz2 {s s':Store}{v:IV}{esz:Nat}{es:List (List IV)}(h:Grow s v esz es):bh7 0 s' v=some (.int .i64 es.length):=by
 rcases h with ⟨rfl,rfl⟩|⟨id,rfl,_⟩<;>rfl
structure PS (s:Store) (pp mid:Nat) (rows:List av6) (inst:Int) (L:NmL) (rv:IV) (B:Nat):Prop where
 cell:s.obj pp=some (.cells [rv,.int .i64 inst,.map mid])
 grow:Grow s rv 17 (rows.map av6.cs)
 map:s.obj mid=some (.map (mEs L))
 row:∀ t∈L,s.obj t.2.2=some (.row (t.2.1.map ar1).flatten)∧t.2.2<s.next∧t.2.1.length≤B
 ids:(L.map (·.2.2)).Nodup
 keys:(L.map (·.1)).Nodup
 ne:∀ id n,rv=.slice id 0 n 17→∀ t∈L,t.2.2≠id
 lt:pp<s.next∧mid<s.next
theorem PS.mono {s s':Store}{pp mid:Nat}{rows:List av6}{inst:Int}{L:NmL}{rv:IV}{B:Nat}(h:PS s pp mid rows inst L rv B)(hn:s.next≤s'.next)(ho:∀ i,i<s.next→s'.obj i=s.obj i):PS s' pp mid rows inst L rv B where
 cell:=by rw[ho _ h.lt.1]; exact h.cell
 grow:=h.grow.mono hn fun id _ hid=>ho id hid
 map:=by rw[ho _ h.lt.2]; exact h.map
 row:=fun t ht=>⟨by rw[ho _ (h.row t ht).2.1]; exact (h.row t ht).1,by have:=(h.row t ht).2.1; omega,(h.row t ht).2.2⟩
 ids:=h.ids
 keys:=h.keys
 ne:=h.ne
 lt:=⟨by have:=h.lt.1; omega,by have:=h.lt.2; omega⟩
theorem cf7 (l:List Int):∀ e∈l.map Md.ar1,e.length=1∧e.all IV.leaf=true:=fun e he=>by
 obtain ⟨x,_,rfl⟩:=List.mem_map.1 he;exact ⟨rfl,rfl⟩
theorem cz3 (l:List av6):∀ e∈l.map av6.cs,e.length=17∧e.all IV.leaf=true:=fun e he=>by
 obtain ⟨x,_,rfl⟩:=List.mem_map.1 he;exact ⟨az6 x,bb8 x⟩
theorem PS.name {s:Store}{pp mid:Nat}{rows:List av6}{inst:Int}{L:NmL}{rv:IV}{B:Nat}(h:PS s pp mid rows inst L rv B)(k:Str)(n:Int)(m nid:Nat)(hm:s.next≤m)(hnew:s.next≤nid)(hb:B<2^30) :
  ∃ s1,aw1 ⟨m,s.obj⟩ nid 1 (ch4 L k) (.aa4 [[.int .i64 n]])=some (.slice nid 0 ((cr5 L k).length+1) 1,s1)∧s1.next=m∧s1.obj mid=some (.map (mEs L))∧(∀ i cs,i<s.next→s.obj i=some (.cells cs)→s1.obj i=some (.cells cs)) ∧
   ∀ nx,nid<nx→PS ⟨nx,(s1.put mid (.map (mEs (ba1 L k n nid)))).obj⟩ pp mid rows inst (ba1 L k n nid) rv (B+1):=by
 have hg0:Grow s (ch4 L k) 1 ((cr5 L k).map Md.ar1):=by
  rcases bg1 L k with ⟨h1,h2⟩|⟨t,ht,_,h1,h2⟩
  ·rw[h1,h2]; exact .inl ⟨rfl,rfl⟩
  ·rw[h1,h2]; exact .inr ⟨t.2.2,by rw[List.length_map],(h.row t ht).1,(h.row t ht).2.1⟩
 have hg:Grow ⟨m,s.obj⟩ (ch4 L k) 1 ((cr5 L k).map Md.ar1):=Grow.mono (σ:=s) hg0 hm fun _ _ _=>rfl
 have hlen:(cr5 L k).length≤B:=by
  rcases bg1 L k with ⟨h1,h2⟩|⟨t,ht,_,h1,h2⟩
  ·rw[h2]; exact Nat.zero_le _
  ·rw[h2]; exact (h.row t ht).2.2
 have hap:=ap2 (nid:=nid) (e:=[.int .i64 n]) hg (cf7 _) ⟨rfl,rfl⟩ (by rw[List.length_map]; omega);rw[List.length_map] at hap;have hmid:¬ mid=nid:=by have:=h.lt.2; omega
 have hpp:¬ pp=nid:=by have:=h.lt.1; omega
 have hpm:¬ pp=mid:=fun e=>by have h1:=h.cell; have h2:=h.map; rw[e,h2] at h1; cases h1
 have km:=ai5 hg mid _ h.map (fun _ e=>by cases e);have kp:=ai5 hg pp _ h.cell (fun _ e=>by cases e)
 have kother:∀ i cs,s.obj i=some (.row cs)→(∀ t∈L,t.1=k→t.2.2≠i)→(an4 (ch4 L k) ⟨m,s.obj⟩).obj i=some (.row cs):=by
  intro i cs hi hne;rcases bg1 L k with ⟨h1,_⟩|⟨t,ht,hk,h1,_⟩
  ·rw[h1]; exact hi
  ·rw[h1];show (if i=t.2.2 then none else s.obj i)=_;rw[if_neg (fun e=>hne t ht hk e.symm)]; exact hi
 refine ⟨_,hap,by rw[ac4,ai9],by rw[aa2,if_neg hmid]; exact km,fun i cs hi h=>by rw[aa2,if_neg (by omega)]; exact ai5 hg i _ h (fun _ e=>by cases e),fun nx hnx=>?_⟩;have hrow_ne_mid:∀ i cs,s.obj i=some (.row cs)→¬ i=mid:=fun i cs hi e=>by subst e; rw[h.map] at hi; cases hi
 exact {
  cell:=by
   show (if pp=mid then _ else if pp=nid then _ else (an4 (ch4 L k) ⟨m,s.obj⟩).obj pp)=_;rw[if_neg hpm,if_neg hpp]; exact kp
  grow:=by
   rcases h.grow with h1|⟨id,hv,ho,hlt⟩
   ·exact .inl h1
   ·refine .inr ⟨id,hv,?_,by show id<nx; omega⟩;show (if id=mid then _ else if id=nid then _ else (an4 (ch4 L k) ⟨m,s.obj⟩).obj id)=_;rw[if_neg (hrow_ne_mid _ _ ho),if_neg (by omega)];exact kother id _ ho fun t ht _=>h.ne id _ hv t ht
  map:=by
   show (if mid=mid then _ else _)=_;rw[if_pos rfl]
  row:=by
   intro t ht;rcases cf3 h.keys t ht with ⟨h1,h2⟩|rfl
   ·obtain ⟨r1,r2,r3⟩:=h.row t h1;refine ⟨?_,by show t.2.2<nx; omega,by omega⟩;show (if t.2.2=mid then _ else if t.2.2=nid then _ else (an4 (ch4 L k) ⟨m,s.obj⟩).obj t.2.2)=_;rw[if_neg (hrow_ne_mid _ _ r1),if_neg (by omega)];exact kother _ _ r1 fun u hu hk e=>h2 (by rw[← fe2 h.keys h.ids u hu t h1 e]; exact hk)
   ·refine ⟨?_,hnx,?_⟩
    ·show (if nid=mid then _ else if nid=nid then _ else _)=_;rw[if_neg (fun e=>hmid e.symm),if_pos rfl,List.map_append];rfl
    ·show (cr5 L k++[n]).length≤B+1;rw[List.length_append]; simp; exact hlen
  ids:=(fe1 L h.ids (fun hm=>by
   obtain ⟨t,ht,e⟩:=List.mem_map.1 hm;have:=(h.row t ht).2.1;have e':t.2.2=nid:=e;omega)).1
  keys:=(dv4 L h.keys).1
  ne:=by
   intro id m hv t ht;rcases cf3 h.keys t ht with ⟨h1,h2⟩|rfl
   ·exact h.ne id m hv t h1
   ·rcases h.grow with ⟨h1,_⟩|⟨id',hv',ho,hlt⟩
    ·rw[h1] at hv; cases hv
    ·rw[hv'] at hv;cases hv;show nid≠id;omega
  lt:=⟨by have:=h.lt.1; show pp<nx; omega,by have:=h.lt.2; show mid<nx; omega⟩ }
theorem go9 {σ:Store}{mid:Nat}{L:NmL}(h:σ.obj mid=some (.map (mEs L)))(k:Str):ct7 σ 2 .aa1 false (.map mid) (.str k)=some (ch4 L k):=by
 obtain ⟨r,h1,h2⟩:=gm8 L k;simp only[ct7,bg6,h,h1,h2,Bool.false_eq_true,if_false]
theorem fg9 {σ:Store}{mid:Nat}{L:NmL}(h:σ.obj mid=some (.map (mEs L)))(k:Str)(n:Int)(nid:Nat):ao2 σ 2 (.map mid) (.str k) (.slice nid 0 ((cr5 L k).length+1) 1)=some (σ.put mid (.map (mEs (ba1 L k n nid)))):=by
 simp only[ao2,h,id8 L k n nid,Option.map]
theorem dx2 (x:aa3):x.cs.head? = some (.str x.name):=rfl
theorem bl1 (x:aa3):(x.cs++[IV.int .i64 0,IV.int .i64 0]).length=17:=rfl
theorem bl2 (x:aa3)(a:Int):(ao8 (x.cs++[IV.int .i64 0,IV.int .i64 0]) 15 [IV.int .i64 a]).length=17:=rfl
theorem bl3 (x:aa3)(a b:Int):ao8 (ao8 (x.cs++[IV.int .i64 0,IV.int .i64 0]) 15 [IV.int .i64 a]) 16 [IV.int .i64 b]=(av6.mk x a b).cs:=rfl
theorem cf8 (r:av6):r.cs.take 17=r.cs:=List.take_of_length_le (by rw[az6]; exact Nat.le_refl _)
theorem PS.push {s:Store}{pp mid:Nat}{rows:List av6}{inst:Int}{L:NmL}{rv:IV}{B:Nat}(h:PS s pp mid rows inst L rv B)(r:av6)(m nid:Nat)(hm:s.next≤m)(hnew:s.next≤nid)(hb:rows.length<2^30) :
  ∃ s1,aw1 ⟨m,s.obj⟩ nid 17 rv (.aa4 [r.cs])=some (.slice nid 0 (rows.length+1) 17,s1)∧s1.next=m∧s1.obj pp=s.obj pp ∧
   ∀ nx,nid<nx→PS ⟨nx,(s1.put pp (.cells [.slice nid 0 (rows.length+1) 17,.int .i64 inst,.map mid])).obj⟩ pp mid (rows++[r]) inst L (.slice nid 0 (rows.length+1) 17) B:=by
 have hg:Grow ⟨m,s.obj⟩ rv 17 (rows.map av6.cs):=Grow.mono (σ:=s) h.grow hm fun _ _ _=>rfl
 have hap:=ap2 (nid:=nid) (e:=r.cs) hg (cz3 rows) ⟨az6 r,bb8 r⟩ (by rw[List.length_map]; omega);rw[List.length_map] at hap;have hmid:¬ mid=nid:=by have:=h.lt.2; omega
 have hpp:¬ pp=nid:=by have:=h.lt.1; omega
 have hmp:¬ mid=pp:=fun e=>by have h1:=h.cell; have h2:=h.map; rw[← e,h2] at h1; cases h1
 have km:=ai5 hg mid _ h.map (fun _ e=>by cases e);have kp:=ai5 hg pp _ h.cell (fun _ e=>by cases e);refine ⟨_,hap,by rw[ac4,ai9],by rw[aa2,if_neg hpp,kp,h.cell],fun nx hnx=>?_⟩
 exact {
  cell:=by
   show (if pp=pp then _ else _)=_;rw[if_pos rfl]
  grow:=by
   refine .inr ⟨nid,by rw[List.map_append,List.length_append,List.length_map]; rfl,?_,hnx⟩;show (if nid=pp then _ else if nid=nid then _ else _)=_;rw[if_neg (fun e=>hpp e.symm),if_pos rfl,List.map_append]; rfl
  map:=by
   show (if mid=pp then _ else if mid=nid then _ else (an4 rv ⟨m,s.obj⟩).obj mid)=_;rw[if_neg hmp,if_neg hmid]; exact km
  row:=by
   intro t ht;obtain ⟨r1,r2,r3⟩:=h.row t ht;refine ⟨?_,by show t.2.2<nx; omega,r3⟩;have e1:¬ t.2.2=pp:=fun e=>by rw[e,h.cell] at r1; cases r1
   show (if t.2.2=pp then _ else if t.2.2=nid then _ else (an4 rv ⟨m,s.obj⟩).obj t.2.2)=_;rw[if_neg e1,if_neg (by omega)];rcases h.grow with ⟨hv,_⟩|⟨id,hv,ho,hlt⟩
   ·rw[hv]; exact r1
   ·rw[hv];show (if t.2.2=id then none else s.obj t.2.2)=_;rw[if_neg (h.ne id _ hv t ht)]; exact r1
  ids:=h.ids
  keys:=h.keys
  ne:=by
   intro id m hv t ht;cases hv;have:=(h.row t ht).2.1;omega
  lt:=⟨by have:=h.lt.1; show pp<nx; omega,by have:=h.lt.2; show mid<nx; omega⟩ }
def iq5 (n pp mid:Nat)(rows:List av6)(inst:Int)(nm:Nms)(l:List aa3)(bg3 prio:Int):IV→Store→Prop:=fun v s=>
 n≤s.next∧((l.all ah9=true∧v=.int .i64 0∧∃ L rv,ax9 L=ax8 nm rows.length l∧PS s pp mid (rows++rowsOf l bg3 prio) inst L rv (rows.length+l.length))∨(l.all ah9=false∧v=.int .i64 4))
theorem hh6 (l:List aa3)(hl:l.length<2^20)(hf:∀ p∈l,p.Fit)(bg3 prio:Int)(σ:Store)(pp mid:Nat)(rows:List av6)(hr:rows.length<2^20)(inst:Int)(L:NmL)(rv:IV)(hp:PS σ pp mid rows inst L rv rows.length) :
  C Tryd.prog EE 20 [.ptr pp 0,.aa4 (l.map aa3.cs),.int .i64 bg3,.int .i64 prio] σ (iq5 σ.next pp mid rows inst (ax9 L) l bg3 prio):=by
 refine C_f fok20 (nZ rfl) ?_;simp only[ic20,go_sem]
 refine ac9 noT (fun i fr s=>fr=[(0,.ptr pp 0),(2,.int .i64 bg3),(3,.int .i64 prio),(11,.aa4 (l.map aa3.cs)),(12,.int .i64 l.length),(13,.int .i64 i)]∧σ.next≤s.next∧(l.take i).all ah9=true ∧
  ∃ L' rv',ax8 (ax9 L') (rows.length+i) (l.drop i)=ax8 (ax9 L) rows.length l∧PS s pp mid (rows++rowsOf (l.take i) bg3 prio) inst L' rv' (rows.length+i)) l.length ⟨rfl,Nat.le_refl _,rfl,L,rv,rfl,by simpa [rowsOf] using hp⟩ ?_
 rintro i fr s hle ⟨rfl,hn,hall,L',rv',hnm,h⟩;by_cases hlt:i<l.length
 ·obtain ⟨x,hx,_,hdr,hget,htk⟩:=ae9 l i hlt;have c1:(i:Int)<l.length:=by omega
  have c2:(0:Int)≤i:=by omega
  have w1:=ag4 (i:=i) (by omega);simp only[go_sem,c1,c2,hget,ak2,ak4,ad9];refine af2 (cf5 x (hf x hx)) ?_
  cases hm:ah9 x with
  | false=>
   have:l.all ah9=false:=by rw[List.all_eq_false]; exact ⟨x,hx,by simp[hm]⟩
   simp only[go_sem]
   exact ⟨by simp only[ac4]; omega,.inr ⟨this,rfl⟩⟩
  | true=>
   generalize hS:Store.mk (s.next+1) _=S1;have hS1:S1.next=s.next+1:=by rw[← hS]
   have hbx:S1.obj s.next=some (.cells x.cs):=by
    rw[← hS]; simp only[aa2,if_true]
   have h1:PS S1 pp mid (rows++rowsOf (l.take i) bg3 prio) inst L' rv' (rows.length+i):=h.mono (by omega) fun j hj=>by
    have e:¬ j=s.next:=by omega
    rw[← hS]; simp only[aa2,e,if_false]
   have hlen:=cz2 (s':=⟨S1.next+21,S1.obj⟩) h1.grow
   have hrl:((rows++rowsOf (l.take i) bg3 prio).map av6.cs).length=rows.length+i:=by
    rw[List.length_map,List.length_append,rowsOf,List.length_map,List.length_take]; omega
   rw[hrl] at hlen;obtain ⟨s2,ha1,ha2,ha3,ha4,hps⟩:=h1.name x.name ((rows.length+i:Nat):Int) (S1.next+21) (S1.next+19) (by omega) (by omega) (by omega);have hlk:=go9 (σ:=⟨S1.next+21,S1.obj⟩) h1.map x.name;simp only[go_sem,Nat.add_assoc,h1.cell,hbx,hlen,dx2,hlk];rw[ha1];simp only[go_sem,Nat.add_assoc];rw[fg9 ha3 x.name ((rows.length+i:Nat):Int)];have h2:=hps (S1.next+21) (by omega);have hmb:¬ s.next=mid:=by have:=h.lt.2; omega
   have hb2:(s2.put mid (ah2.map (mEs (ba1 L' x.name ((rows.length+i:Nat):Int) (S1.next+19))))).obj s.next=some (.cells x.cs):=by
    simp only[aa2,hmb,if_false];exact ha4 _ _ (by omega) hbx
   have hn3:(s2.put mid (ah2.map (mEs (ba1 L' x.name ((rows.length+i:Nat):Int) (S1.next+19))))).next=S1.next+21:=ha2;generalize s2.put mid (ah2.map (mEs (ba1 L' x.name ((rows.length+i:Nat):Int) (S1.next+19))))=S3 at *;obtain ⟨s4,hb3,hb4,hb5,hps2⟩:=h2.push ⟨x,bg3,prio⟩ (S3.next+15) (S3.next+11) (by show S1.next+21≤_; omega) (by show S1.next+21≤_; omega) (by rw[List.length_append,rowsOf,List.length_map,List.length_take]; omega);have hc3:=h2.cell;simp only at hc3 hb3;simp only[go_sem,Nat.add_assoc,hc3,hb2,ak2,ak4,ad9];refine af2 (cs7 x (hf x hx)) ?_;simp only[go_sem,Nat.add_assoc,ak2,ak4,ad9,bl1,bl2,bl3,az6,bb8,cf8,List.append_nil,List.drop_nil];rw[hb3];have hc4:s4.obj pp=some (.cells [rv',.int .i64 inst,.map mid]):=by rw[hb5]; exact hc3
   simp only[go_sem,Nat.add_assoc,hc4,w1];have h5:=hps2 s4.next (by rw[hb4]; omega);refine ⟨hlt,by omega,?_,ba1 L' x.name ((rows.length+i:Nat):Int) (S1.next+19),.slice (S3.next+11) 0 ((rows++rowsOf (l.take i) bg3 prio).length+1) 17,?_,?_⟩
   ·rw[htk,List.all_append,hall]; simp[hm]
   rotate_left
   ·rw[htk,bj6,← List.append_assoc];exact h5
   ·rw[← hnm,hdr,ax8,cx5,← Nat.add_assoc]
 ·have hi':i=l.length:=by omega
  subst hi';have c1:¬ (l.length:Int)<l.length:=by omega
  simp only[go_sem,c1];rw[List.take_length] at hall h;rw[List.drop_length] at hnm;exact ⟨hn,.inl ⟨hall,rfl,L',rv',hnm,h⟩⟩
def aj7.Fit (r:aj7):Prop:=r.packages.length<2^20∧∀ p∈r.packages,p.Fit
theorem fv7 (r:aj7):∀ c∈r.cs,Bnd 0 c:=by
 intro c hc;simp only[aj7.cs,List.mem_cons,List.not_mem_nil,or_false] at hc;rcases hc with rfl|rfl
 ·exact .int _ _
 ·exact .aa4 _ fun e he c hc=>by
   obtain ⟨p,_,rfl⟩:=List.mem_map.1 he; exact bx8 p c hc
abbrev aw4 (l:List aa3):IV:=.aa4 (l.map aa3.cs)
abbrev aq4 (l:List aj7):IV:=.aa4 (l.map aj7.cs)
theorem cz4 (l:List aa3):Bnd 0 (aw4 l):=.aa4 _ fun e he c hc=>by
 obtain ⟨p,_,rfl⟩:=List.mem_map.1 he; exact bx8 p c hc
theorem cf9 (l:List aj7):Bnd 0 (aq4 l):=.aa4 _ fun e he c hc=>by
 obtain ⟨p,_,rfl⟩:=List.mem_map.1 he; exact fv7 p c hc
theorem bb9 {P:IV→Prop}{u v:IV}(hu:P u)(hv:P v):∀ a∈[u,v],P a:=fun a ha=>by
 cases ha with
 | head=>exact hu
 | tail _ h=>cases h with
  | head=>exact hv
  | tail _ h=>cases h
theorem av8 (r:aj7):r.cs.length=2:=rfl
theorem bo8 (r:aj7):r.cs.all IV.leaf=true:=rfl
theorem bo9 (r:aj7):r.cs.take 2=r.cs:=rfl
theorem cb6 (l:List aj7)(i:Nat)(a:aj7)(h:l.drop i=a::l.drop (i+1)):ai3 (l.drop i)=a.packages.length+ai3 (l.drop (i+1)):=by
 rw[h]; simp[ai3]
theorem PS.frz {s:Store}{pp mid:Nat}{rows:List av6}{inst:Int}{L:NmL}{rv:IV}{B:Nat}(h:PS s pp mid rows inst L rv B):bm9 s 0 (.ptr pp 0) (Pool.v ⟨rows,inst,ax9 L⟩):=by
 refine .ptr pp 0 _ _ (Nat.not_lt_zero _) (.inl h.cell) (Nat.le_refl _) fun j hj=>?_
 have hj3:j=0∨j=1∨j=2:=by simp only[List.length_cons,List.length_nil] at hj; omega
 rcases hj3 with rfl|rfl|rfl
 ·refine h.grow.frz (fun x hx=>(cz3 rows x hx).1) (fun _ _=>Nat.not_lt_zero _) fun e he c hc=>?_
  obtain ⟨r,_,rfl⟩:=List.mem_map.1 he;exact dx1 r c hc
 ·exact ac8 _ _
 ·have hat:∀ i,i<(mEs L).length→∃ t∈L,(mEs L).getD i (.undef,.undef)=(.str t.1,.slice t.2.2 0 t.2.1.length 1)∧(nmV (ax9 L)).getD i (.undef,.undef)=(.str t.1,.aa4 (t.2.1.map Md.ar1)):=by
   intro i hi;have hi':i<L.length:=by simpa [mEs] using hi
   exact ⟨L[i],List.getElem_mem hi',by simp[mEs,List.getD_eq_getElem?_getD,hi'],by simp[nmV,ax9,List.getD_eq_getElem?_getD,hi']⟩
  refine .map mid (mEs L) (nmV (ax9 L)) (nmV (ax9 L)) (Nat.not_lt_zero _) h.map (by simp[nmV,ax9,mEs]) (List.Perm.refl _) ⟨?_,.str,fun e he=>?_⟩ (fun i hi=>?_) (fun i hi=>?_)
  ·have:(nmV (ax9 L)).map (·.1)=(L.map (·.1)).map IV.str:=by simp[nmV,ax9]
   rw[this];exact List.Pairwise.map _ (fun a b hab e=>hab (by cases e; rfl)) h.keys
  ·simp only[nmV,List.mem_map] at he;obtain ⟨t,_,rfl⟩:=he;trivial
  ·obtain ⟨t,ht,e1,e2⟩:=hat i hi;rw[e1,e2]; exact ag7 _
  ·obtain ⟨t,ht,e1,e2⟩:=hat i hi;rw[e1,e2];obtain ⟨r1,r2,_⟩:=h.row t ht;have hg:Grow s (.slice t.2.2 0 t.2.1.length 1) 1 (t.2.1.map Md.ar1):=.inr ⟨t.2.2,by rw[List.length_map],r1,r2⟩;refine hg.frz (fun x hx=>(cf7 _ x hx).1) (fun _ _=>Nat.not_lt_zero _) fun e he c hc=>?_
   obtain ⟨n,_,rfl⟩:=List.mem_map.1 he
   cases hc with
   | head=>exact .int _ _
   | tail _ h=>cases h
theorem cz5 {s:Store}(n:Int):bm9 s 0 (.tuple [.ad3,.int .i64 n]) (.tuple [.ad3,.int .i64 n]):=.bm2 (.cons (.keep _ .ad3) (.cons (ac8 _ _) .nil))
theorem cs8 (repos:List aj7)(inst:List aa3)(h1:repos.length<2^20)(h2:inst.length<2^20)(h3:ai3 repos<2^40)(hr:∀ r∈repos,aj7.Fit r)(hi:∀ p∈inst,p.Fit) :
  PC Tryd.prog EE 7 [aq4 repos,aw4 inst] (gr7 (bz7 repos inst)):=by
 refine bz1 hE fok7 (nZ rfl) (bb9 (cf9 _) (cz4 _)) ?_;simp only[ic7,go_sem];refine ac9 noT (fun i fr s=>∃ n:Nat,fr=[(0,aq4 repos),(1,aw4 inst),(6,.int .i64 n),(16,aq4 repos),(17,.int .i64 repos.length),(18,.int .i64 i)]∧n+ai3 (repos.drop i)=inst.length+ai3 repos) repos.length ⟨inst.length,rfl,rfl⟩ ?_;rintro i fr s hle ⟨n,rfl,hn⟩;by_cases hlt:i<repos.length
 ·obtain ⟨a,ha,_,hdr,hget,htk⟩:=ae9 repos i hlt;have c1:(i:Int)<repos.length:=by omega
  have c2:(0:Int)≤i:=by omega
  have w1:=ag4 (i:=i) (by omega);rw[cb6 repos i a hdr] at hn
  have w2:IntKind.i64.wrap ((n:Int)+a.packages.length)=((n+a.packages.length:Nat):Int):=by
   rw[wrap64 (by omega) (by omega)]; omega
  simp only[go_sem,c1,c2,hget,av8,bo9,bo8];simp only[go_sem,aj7.cs,w1,w2];exact ⟨hlt,n+a.packages.length,rfl,by omega⟩
 have hi':i=repos.length:=by omega
 subst hi';have c1:¬ (repos.length:Int)<repos.length:=by omega
 have hn0:n=inst.length+ai3 repos:=by rw[List.drop_length] at hn; simpa [ai3] using hn
 subst hn0;by_cases b1:16<repos.length
 ·have b1':(16:Int)<repos.length:=by omega
  simp only[go_sem,c1,b1',bz7,b1,true_or];exact .bm2 (.cons (.keep _ .ad3) (.cons (ac8 _ _) .nil))
 have b1':¬ (16:Int)<repos.length:=by omega
 by_cases b2:256<inst.length+ai3 repos
 ·have b2':(256:Int)<((inst.length+ai3 repos:Nat):Int):=by omega
  simp only[go_sem,c1,b1',b2',bz7,b1,b2,or_true];exact .bm2 (.cons (.keep _ .ad3) (.cons (ac8 _ _) .nil))
 have b2':¬ (256:Int)<((inst.length+ai3 repos:Nat):Int):=by omega
 simp only[go_sem,c1,b1',b2']
 have hp0:PS ⟨s.next+2,((Store.put ⟨s.next+2,s.obj⟩ s.next (ah2.map [])).put (s.next+1) (ah2.cells [.aa1,.int .i64 inst.length,.map s.next])).obj⟩ (s.next+1) s.next [] inst.length [] .aa1 0 :=
  {cell:=by simp only[aa2,if_true]
   grow:=.inl ⟨rfl,rfl⟩
   map:=by
    have e:¬ s.next=s.next+1:=by omega
    simp only[aa2,e,if_false,if_true]; rfl
   row:=fun t ht=>by cases ht
   ids:=List.nodup_nil
   keys:=List.nodup_nil
   ne:=fun _ _ h=>by cases h
   lt:=⟨by show s.next+1<s.next+2; omega,by show s.next<s.next+2; omega⟩ }
 refine ae3 fok20 (hh6 inst h2 hi (-1) 1025 _ (s.next+1) s.next [] (by decide) inst.length [] .aa1 hp0) ?_;rintro v s2 ⟨n2,⟨g1,rfl,L1,rv1,g2,g3⟩|⟨g1,rfl⟩⟩
 case inr=>
  refine ⟨n2,?_⟩;simp only[go_sem,bz7,b1,b2,or_self,g1];exact cz5 _
 refine ⟨n2,?_⟩
 have hres:bz7 repos inst=match ad5 0 repos (rowsOf inst (-1) 1025,ax8 [] 0 inst) with
  | some (rows,nm)=>.inl ⟨rows,inst.length,nm⟩
  | none=>.inr 4:=by
  simp only[bz7,b1,b2,or_self,if_false,g1,Bool.true_eq_false];rfl
 rw[hres];simp only[go_sem]
 refine ac9 noT (fun i fr t=>fr=[(9,.ptr (s.next+1) 0),(46,aq4 repos),(47,.int .i64 repos.length),(48,.int .i64 i)]∧∃ rows L rv,PS t (s.next+1) s.next rows inst.length L rv rows.length ∧
  ad5 0 repos (rowsOf inst (-1) 1025,ax8 [] 0 inst)=ad5 i (repos.drop i) (rows,ax9 L)∧rows.length+ai3 (repos.drop i)=inst.length+ai3 repos) repos.length ⟨rfl,rowsOf inst (-1) 1025,L1,rv1,?_,?_,?_⟩ ?_
 ·have e:(rowsOf inst (-1) 1025).length=0+inst.length:=by rw[am6]; omega
  rw[e]; exact g3
 ·rw[g2]; rfl
 ·rw[am6]; rfl
 rintro i fr t hle ⟨rfl,rows,L,rv,hp,hrf,hsum⟩;by_cases hlt:i<repos.length
 ·obtain ⟨a,ha,_,hdr,hget,htk⟩:=ae9 repos i hlt;have c1:(i:Int)<repos.length:=by omega
  have c2:(0:Int)≤i:=by omega
  have w1:=ag4 (i:=i) (by omega);rw[cb6 repos i a hdr] at hsum;rw[hdr] at hrf;simp only[go_sem,c1,c2,hget,av8,bo9,bo8];by_cases p1:a.priority<0
  ·simp only[go_sem,aj7.cs,p1];rw[hrf,ad5,if_pos (.inl p1)];exact cz5 _
  by_cases p2:1024<a.priority
  ·simp only[go_sem,aj7.cs,p1,p2];rw[hrf,ad5,if_pos (.inr (.inl p2))];exact cz5 _
  simp only[go_sem,aj7.cs,p1,p2]
  have hp1:PS ⟨t.next+1,((Store.put ⟨t.next+1,t.obj⟩ t.next (ah2.cells [.int .i64 0,.aa1])).put t.next (ah2.cells [.int .i64 a.priority,aw4 a.packages])).obj⟩ (s.next+1) s.next rows inst.length L rv rows.length:=hp.mono (Nat.le_succ _) fun j hj=>by
   have e:¬ j=t.next:=by omega
   simp only[aa2,e,if_false]
  refine ae3 fok20 (hh6 a.packages (hr a ha).1 (hr a ha).2 i a.priority _ (s.next+1) s.next rows (by omega) inst.length L rv hp1) ?_;rintro v s3 ⟨n3,⟨k1,rfl,L2,rv2,k2,k3⟩|⟨k1,rfl⟩⟩
  ·refine ⟨n3,?_⟩;simp only[go_sem,w1];refine ⟨hlt,rows++rowsOf a.packages i a.priority,L2,rv2,?_,?_,?_⟩
   ·rw[List.length_append,am6]; exact k3
   ·rw[hrf,ad5,if_neg (by simp[p1,p2,k1]),k2]
   ·rw[List.length_append,am6]; omega
  ·refine ⟨n3,?_⟩;simp only[go_sem];rw[hrf,ad5,if_pos (.inr (.inr k1))];exact cz5 _
 have hi':i=repos.length:=by omega
 subst hi';have c1:¬ (repos.length:Int)<repos.length:=by omega
 rw[List.drop_length] at hrf;simp only[go_sem,c1];rw[hrf,ad5];exact .bm2 (.cons hp.frz (.cons (ac8 _ _) .nil))
theorem fh1 (l:List av6)(n:Int):PC Tryd.prog EE 21 [.aa4 (l.map av6.cs),.int .i64 n] (.bool (decide (0≤n)&&decide (n<l.length))):=by
 refine bp3 fok21 (nZ rfl) fun σ=>?_
 by_cases h:0≤n
 ·simp only[ic21,go_sem,h,and_self]
 ·simp only[ic21,go_sem,h,and_self]
theorem fv8 (r:av6):r.cs.take 15=r.pkg.cs:=rfl
/-! ### What is the same -/
theorem by1 (x y:Dep):(decide (x.name=y.name)&&(decide (x.op=y.op)&&(decide (x.evr.aq5=y.evr.aq5)&&(decide (x.evr.ver=y.evr.ver)&&decide (x.evr.rel=y.evr.rel)))))=decide (x=y):=by
 obtain ⟨n,o,e,v,r⟩:=x;obtain ⟨n',o',e',v',r'⟩:=y;simp only[Dep.mk.injEq,EVR.mk.injEq,Bool.decide_and]
theorem cs9 (xs ys:List Dep)(h1:xs.length<2^62)(h2:ys.length<2^62):PC Tryd.prog EE 23 [.aa4 (xs.map Dep.cs),.aa4 (ys.map Dep.cs)] (.bool (decide (xs=ys))):=by
 refine bz1 hE fok23 (nZ rfl) (bb9 (ak3 xs) (ak3 ys)) ?_;by_cases hl:xs.length=ys.length
 case neg=>
  have hl':¬ (xs.length:Int)=ys.length:=by omega
  have:decide (xs=ys)=false:=decide_eq_false fun e=>hl (by rw[e])
  simp only[ic23,go_sem,hl',this];exact ab8 _
 have hl':(xs.length:Int)=ys.length:=by omega
 have hl2:decide ((xs.length:Int)=ys.length)=true:=decide_eq_true hl';simp only[ic23,go_sem,hl2];refine ac9 noT (fun i fr s=>fr=[(0,.aa4 (xs.map Dep.cs)),(1,.aa4 (ys.map Dep.cs)),(5,.int .i64 i)]∧xs.take i=ys.take i) xs.length ⟨rfl,rfl⟩ ?_;rintro i fr s hi ⟨rfl,hf⟩;by_cases hlt:i<xs.length
 ·obtain ⟨x,hx,hxi,hdr,hget,htk⟩:=ae9 xs i hlt;obtain ⟨y,hy,hyi,hdr2,hget2,htk2⟩:=ae9 ys i (by omega);have c1:(i:Int)<xs.length:=by omega
  have c3:(i:Int)<ys.length:=by omega
  have c2:(0:Int)≤i:=by omega
  have w1:=ag4 (i:=i) (by omega);simp only[go_sem,c1,c2,c3,hget,hget2,bx7,cz1,cb4,Dep.cs,ap4,Md.ar1,w1,by1];by_cases hxy:x=y
  ·have hd:decide (x=y)=true:=decide_eq_true hxy;simp only[go_sem,hd,w1];refine ⟨hlt,?_⟩;rw[htk,htk2,hf,hxy]
  ·have hd:decide (x=y)=false:=decide_eq_false hxy;have hne:decide (xs=ys)=false:=decide_eq_false fun e=>hxy (by rw[e] at hxi; rw[hxi] at hyi; cases hyi; rfl)
   simp only[go_sem,hd,hne];exact ab8 _
 ·have hi':i=xs.length:=by omega
  subst hi';have c1:¬ (xs.length:Int)<xs.length:=by omega
  rw[List.take_length,hl,List.take_length] at hf;have:decide (xs=ys)=true:=decide_eq_true hf;simp only[go_sem,c1,this];exact ab8 _
theorem dq9 (xs ys:List Str)(h1:xs.length<2^62)(h2:ys.length<2^62):PC Tryd.prog EE 25 [.aa4 (xs.map ap4),.aa4 (ys.map ap4)] (.bool (decide (xs=ys))):=by
 refine bz1 hE fok25 (nZ rfl) (bb9 (an5 xs) (an5 ys)) ?_;by_cases hl:xs.length=ys.length
 case neg=>
  have hl':¬ (xs.length:Int)=ys.length:=by omega
  have:decide (xs=ys)=false:=decide_eq_false fun e=>hl (by rw[e])
  simp only[ic25,go_sem,hl',this];exact ab8 _
 have hl':(xs.length:Int)=ys.length:=by omega
 have hl2:decide ((xs.length:Int)=ys.length)=true:=decide_eq_true hl';simp only[ic25,go_sem,hl2];refine ac9 noT (fun i fr s=>fr=[(0,.aa4 (xs.map ap4)),(1,.aa4 (ys.map ap4)),(5,.int .i64 i)]∧xs.take i=ys.take i) xs.length ⟨rfl,rfl⟩ ?_;rintro i fr s hi ⟨rfl,hf⟩;by_cases hlt:i<xs.length
 ·obtain ⟨x,hx,hxi,hdr,hget,htk⟩:=ae9 xs i hlt;obtain ⟨y,hy,hyi,hdr2,hget2,htk2⟩:=ae9 ys i (by omega);have c1:(i:Int)<xs.length:=by omega
  have c3:(i:Int)<ys.length:=by omega
  have c2:(0:Int)≤i:=by omega
  have w1:=ag4 (i:=i) (by omega);simp only[go_sem,c1,c2,c3,hget,hget2,bx7,cz1,cb4,Dep.cs,ap4,Md.ar1,w1,by1];by_cases hxy:x=y
  ·have hd:decide (x=y)=true:=decide_eq_true hxy;simp only[go_sem,hd,w1];refine ⟨hlt,?_⟩;rw[htk,htk2,hf,hxy]
  ·have hd:decide (x=y)=false:=decide_eq_false hxy;have hne:decide (xs=ys)=false:=decide_eq_false fun e=>hxy (by rw[e] at hxi; rw[hxi] at hyi; cases hyi; rfl)
   simp only[go_sem,hd,hne];exact ab8 _
 ·have hi':i=xs.length:=by omega
  subst hi';have c1:¬ (xs.length:Int)<xs.length:=by omega
  rw[List.take_length,hl,List.take_length] at hf;have:decide (xs=ys)=true:=decide_eq_true hf;simp only[go_sem,c1,this];exact ab8 _
theorem di4:∀ (xs ys:List aa8),xs.length≠ys.length→aa8.bh4 xs ys=false:=by
 intro xs
 induction xs with
 | nil=>intro ys h; cases ys with
  | nil=>exact absurd rfl h
  | cons y ys=>rfl
 | cons x xs ih=>intro ys h; cases ys with
  | nil=>rfl
  | cons y ys=>simp only[aa8.bh4]; rw[ih ys (fun e=>h (by simp[e]))]; simp
theorem ct1 (x y:aa8)(xs ys:List aa8):aa8.bh4 (x::xs) (y::ys)=(x.same y&&aa8.bh4 xs ys):=by simp only[aa8.bh4]
theorem cz6 (a b:Nat):decide ((a:Int)=b)=decide (a=b):=decide_eq_decide.2 (by omega)
theorem dr1 (a:aa8):∀ b:aa8,a.fit→b.fit→PC Tryd.prog EE 36 [.agg a.cs,.agg b.cs] (.bool (a.same b)):=by
 induction a using aa8.ind with
 | h k d xs ih=>
  intro b hfa hfb;obtain ⟨k',d',ys⟩:=b;obtain ⟨f1,f2,f3,f4,f5⟩:=aa8.bn3.1 hfa;obtain ⟨g1,g2,g3,g4,g5⟩:=aa8.bn3.1 hfb;refine bz1 hE fok36 (nZ rfl) (bb9 (at7 _) (at7 _)) ?_;rw[aa8.aq1,aa8.aq1];simp only[ic36,go_sem,aa8.kind,aa8.dep,aa8.args,by1,aa8.same];by_cases hk:k=k'
  case neg=>
   have e:decide (k=k')=false:=decide_eq_false hk;simp only[go_sem,e];exact ab8 _
  have ek:decide (k=k')=true:=decide_eq_true hk;by_cases hd:d=d'
  case neg=>
   have e:decide (d=d')=false:=decide_eq_false hd;simp only[go_sem,ek,by1,e];exact ab8 _
  have ed:decide (d=d')=true:=decide_eq_true hd;by_cases hl:xs.length=ys.length
  case neg=>
   have e:decide (xs.length=ys.length)=false:=decide_eq_false hl;simp only[go_sem,ek,by1,ed,cz6,e,di4 xs ys hl];exact ab8 _
  have el:decide (xs.length=ys.length)=true:=decide_eq_true hl;simp only[go_sem,ek,by1,ed,cz6,el]
  refine ac9 noT (fun i fr s=>fr=[(2,.af4 [.int .u8 k,.str d.name,.int .u8 d.op,.int .i64 d.evr.aq5,.str d.evr.ver,.str d.evr.rel,.aa4 (xs.map aa8.cs)]),(3,.af4 [.int .u8 k',.str d'.name,.int .u8 d'.op,.int .i64 d'.evr.aq5,.str d'.evr.ver,.str d'.evr.rel,.aa4 (ys.map aa8.cs)]),(5,.int .i64 i)] ∧
   aa8.bh4 xs ys=aa8.bh4 (xs.drop i) (ys.drop i)) xs.length ⟨rfl,rfl⟩ ?_
  rintro i fr s hi ⟨rfl,hf⟩;by_cases hlt:i<xs.length
  ·obtain ⟨x,hx,hxi,hdr,hget,htk⟩:=ae9 xs i hlt;obtain ⟨y,hy,hyi,hdr2,hget2,htk2⟩:=ae9 ys i (by omega);have c1:(i:Int)<xs.length:=by omega
   have c3:(i:Int)<ys.length:=by omega
   have c2:(0:Int)≤i:=by omega
   have w1:=ag4 (i:=i) (by omega);rw[hdr,hdr2,ct1] at hf;simp only[go_sem,c1,c2,c3,hget,hget2,ac1,ae5,w1];refine ac2 fok36 (ih x hx y (f5 x hx) (g5 y hy)) ?_
   cases hs:x.same y with
   | true=>
    rw[hs,Bool.true_and] at hf;simp only[go_sem,w1]
    exact ⟨hlt,hf⟩
   | false=>
    rw[hs,Bool.false_and] at hf;simp only[go_sem,hf];exact ab8 _
  ·have hi':i=xs.length:=by omega
   subst hi';have c1:¬ (xs.length:Int)<xs.length:=by omega
   have e2:ys.drop xs.length=[]:=List.drop_of_length_le (by omega);rw[List.drop_length,e2] at hf;simp only[go_sem,c1,hf,aa8.bh4];exact ab8 _
theorem am8 (xs ys:List aa8)(h1:xs.length<2^31)(h2:ys.length<2^31)(f5:∀ r∈xs,r.fit)(g5:∀ r∈ys,r.fit):PC Tryd.prog EE 24 [ab7 xs,ab7 ys] (.bool (ao4 xs ys)):=by
 refine bz1 hE fok24 (nZ rfl) (bb9 (ad2 xs) (ad2 ys)) ?_;unfold ao4;by_cases hl:xs.length=ys.length
 case neg=>
  have e:decide (xs.length=ys.length)=false:=decide_eq_false hl;simp only[ic24,go_sem,cz6,e,di4 xs ys hl];exact ab8 _
 have el:decide (xs.length=ys.length)=true:=decide_eq_true hl;simp only[ic24,go_sem,cz6,el];refine ac9 noT (fun i fr s=>fr=[(0,ab7 xs),(1,ab7 ys),(5,.int .i64 i)]∧aa8.bh4 xs ys=aa8.bh4 (xs.drop i) (ys.drop i)) xs.length ⟨rfl,rfl⟩ ?_;rintro i fr s hi ⟨rfl,hf⟩;by_cases hlt:i<xs.length
 ·obtain ⟨x,hx,hxi,hdr,hget,htk⟩:=ae9 xs i hlt;obtain ⟨y,hy,hyi,hdr2,hget2,htk2⟩:=ae9 ys i (by omega);have c1:(i:Int)<xs.length:=by omega
  have c3:(i:Int)<ys.length:=by omega
  have c2:(0:Int)≤i:=by omega
  have w1:=ag4 (i:=i) (by omega);rw[hdr,hdr2,ct1] at hf;simp only[go_sem,c1,c2,c3,hget,hget2,ac1,ae5,w1];refine ac2 fok36 (dr1 x y (f5 x hx) (g5 y hy)) ?_
  cases hs:x.same y with
  | true=>
   rw[hs,Bool.true_and] at hf;simp only[go_sem,w1]
   exact ⟨hlt,hf⟩
  | false=>
   rw[hs,Bool.false_and] at hf;simp only[go_sem,hf];exact ab8 _
 ·have hi':i=xs.length:=by omega
  subst hi';have c1:¬ (xs.length:Int)<xs.length:=by omega
  have e2:ys.drop xs.length=[]:=List.drop_of_length_le (by omega);rw[List.drop_length,e2] at hf;simp only[go_sem,c1,hf,aa8.bh4];exact ab8 _
theorem cg1 (x y:EVR):(decide (x.aq5=y.aq5)&&(decide (x.ver=y.ver)&&decide (x.rel=y.rel)))=decide (x=y):=by
 obtain ⟨e,v,r⟩:=x;obtain ⟨e',v',r'⟩:=y;simp only[EVR.mk.injEq,Bool.decide_and]
theorem eo2 (p q:aa3)(hp:p.Fit)(hq:q.Fit):PC Tryd.prog EE 9 [.agg p.cs,.agg q.cs] (.bool (al3 p q)):=by
 refine bp3 fok9 (nZ rfl) fun σ=>?_
 cases h1:decide (p.name=q.name) with
 | false=>simp only[ic9,go_sem,ad9,aa3.cs,cg1,h1,al3,and_self]
 | true=>
 cases h2:decide (p.evr=q.evr) with
 | false=>simp only[ic9,go_sem,ad9,aa3.cs,cg1,h1,h2,al3,and_self]
 | true=>
 cases h3:decide (p.dg5=q.dg5) with
 | false=>simp only[ic9,go_sem,ad9,aa3.cs,cg1,h1,h2,h3,al3,and_self]
 | true=>
 cases h4:decide (p.vendor=q.vendor) with
 | false=>simp only[ic9,go_sem,ad9,aa3.cs,cg1,h1,h2,h3,h4,al3,and_self]
 | true=>
 simp only[ic9,go_sem,ad9,aa3.cs,cg1,h1,h2,h3,h4];refine ac2 fok23 (cs9 p.provides q.provides (by have:=hp.aw3.1; omega) (by have:=hq.aw3.1; omega)) ?_
 cases h5:decide (p.provides=q.provides) with
 | false=>simp only[go_sem,h1,h2,h3,h4,h5,al3,and_self]
 | true=>
 simp only[go_sem];refine ac2 fok24 (am8 p.requires q.requires (hp.au3 (1,p.requires) (by simp[aa3.rows])).1 (hq.au3 (1,q.requires) (by simp[aa3.rows])).1 (fun r hr=>((hp.au3 (1,p.requires) (by simp[aa3.rows])).2 r hr).1) (fun r hr=>((hq.au3 (1,q.requires) (by simp[aa3.rows])).2 r hr).1)) ?_
 cases h6:ao4 p.requires q.requires with
 | false=>simp only[go_sem,h1,h2,h3,h4,h5,h6,al3,and_self]
 | true=>
 simp only[go_sem];refine ac2 fok24 (am8 p.conflicts q.conflicts (hp.au3 (2,p.conflicts) (by simp[aa3.rows])).1 (hq.au3 (2,q.conflicts) (by simp[aa3.rows])).1 (fun r hr=>((hp.au3 (2,p.conflicts) (by simp[aa3.rows])).2 r hr).1) (fun r hr=>((hq.au3 (2,q.conflicts) (by simp[aa3.rows])).2 r hr).1)) ?_
 cases h7:ao4 p.conflicts q.conflicts with
 | false=>simp only[go_sem,h1,h2,h3,h4,h5,h6,h7,al3,and_self]
 | true=>
 simp only[go_sem];refine ac2 fok23 (cs9 p.ab9 q.ab9 (by have:=hp.obs.1; omega) (by have:=hq.obs.1; omega)) ?_
 cases h8:decide (p.ab9=q.ab9) with
 | false=>simp only[go_sem,h1,h2,h3,h4,h5,h6,h7,h8,al3,and_self]
 | true=>
 simp only[go_sem];refine ac2 fok24 (am8 p.aa7 q.aa7 (hp.au3 (1,p.aa7) (by simp[aa3.rows])).1 (hq.au3 (1,q.aa7) (by simp[aa3.rows])).1 (fun r hr=>((hp.au3 (1,p.aa7) (by simp[aa3.rows])).2 r hr).1) (fun r hr=>((hq.au3 (1,q.aa7) (by simp[aa3.rows])).2 r hr).1)) ?_
 cases h9:ao4 p.aa7 q.aa7 with
 | false=>simp only[go_sem,h1,h2,h3,h4,h5,h6,h7,h8,h9,al3,and_self]
 | true=>
 simp only[go_sem];refine ac2 fok24 (am8 p.aa5 q.aa5 (hp.au3 (3,p.aa5) (by simp[aa3.rows])).1 (hq.au3 (3,q.aa5) (by simp[aa3.rows])).1 (fun r hr=>((hp.au3 (3,p.aa5) (by simp[aa3.rows])).2 r hr).1) (fun r hr=>((hq.au3 (3,q.aa5) (by simp[aa3.rows])).2 r hr).1)) ?_
 cases h10:ao4 p.aa5 q.aa5 with
 | false=>simp only[go_sem,h1,h2,h3,h4,h5,h6,h7,h8,h9,h10,al3,and_self]
 | true=>
 simp only[go_sem];refine ac2 fok24 (am8 p.suggests q.suggests (hp.au3 (1,p.suggests) (by simp[aa3.rows])).1 (hq.au3 (1,q.suggests) (by simp[aa3.rows])).1 (fun r hr=>((hp.au3 (1,p.suggests) (by simp[aa3.rows])).2 r hr).1) (fun r hr=>((hq.au3 (1,q.suggests) (by simp[aa3.rows])).2 r hr).1)) ?_
 cases h11:ao4 p.suggests q.suggests with
 | false=>simp only[go_sem,h1,h2,h3,h4,h5,h6,h7,h8,h9,h10,h11,al3,and_self]
 | true=>
 simp only[go_sem];refine ac2 fok24 (am8 p.ab2 q.ab2 (hp.au3 (3,p.ab2) (by simp[aa3.rows])).1 (hq.au3 (3,q.ab2) (by simp[aa3.rows])).1 (fun r hr=>((hp.au3 (3,p.ab2) (by simp[aa3.rows])).2 r hr).1) (fun r hr=>((hq.au3 (3,q.ab2) (by simp[aa3.rows])).2 r hr).1)) ?_
 cases h12:ao4 p.ab2 q.ab2 with
 | false=>simp only[go_sem,h1,h2,h3,h4,h5,h6,h7,h8,h9,h10,h11,h12,al3,and_self]
 | true=>
 simp only[go_sem];refine ac2 fok25 (dq9 p.files q.files (by have:=hp.files.1; omega) (by have:=hq.files.1; omega)) ?_
 cases h13:decide (p.files=q.files) with
 | false=>simp only[go_sem,h1,h2,h3,h4,h5,h6,h7,h8,h9,h10,h11,h12,h13,al3,and_self]
 | true=>
 simp only[go_sem,h1,h2,h3,h4,h5,h6,h7,h8,h9,h10,h11,h12,h13,al3,and_self]
end Go.Id.Tryd
set_option linter.all false
namespace Go.Id.Tryd
open Go Go.Id Go.Proofs Go.Id.Md
set_option maxRecDepth 100000
set_option maxHeartbeats 1000000
def au4 (s:Store)(v:IV)(esz:Nat)(es:List (List IV)):Prop:=Grow s v esz es∨(v=.ab4∧es=[])
def fu2 (s:Store)(v:IV)(esz:Nat)(es:List (List IV)):Prop:=v=.aa4 es∨au4 s v esz es
def an1 (lo:Nat)(v:IV):Prop:=∀ i k e,v=.slice i 0 k e→lo≤i
theorem Grow.rows {s t:Store}{v:IV}{esz:Nat}{es:List (List IV)}(h:Grow s v esz es)(hn:s.next≤t.next)(ho:∀ id cs,id<s.next→s.obj id=some (.row cs)→t.obj id=some (.row cs)):Grow t v esz es:=by
 rcases h with h|⟨id,h1,h2,h3⟩
 ·exact .inl h
 ·exact .inr ⟨id,h1,ho _ _ h3 h2,Nat.lt_of_lt_of_le h3 hn⟩
theorem au4.kept {s t:Store}{v:IV}{esz:Nat}{es:List (List IV)}(h:au4 s v esz es)(hk:Kept s t):au4 t v esz es:=by
 rcases h with h|h
 ·exact .inl (h.mono hk.next fun i _ hi=>hk.obj i hi)
 ·exact .inr h
theorem fu2.kept {s t:Store}{v:IV}{esz:Nat}{es:List (List IV)}(h:fu2 s v esz es)(hk:Kept s t):fu2 t v esz es:=by
 rcases h with h|h
 ·exact .inl h
 ·exact .inr (h.kept hk)
theorem dp4 {S:Store}{did nid esz id:Nat}{es:List (List IV)}(ho:S.obj did=some (.row []))(hs:S.obj id=some (.row es.flatten))(h:∀ x∈es,x.length=esz∧x.all IV.leaf=true)(hn:es.length≤2147483648) :
  (es=[]∧aw1 S nid esz (.slice did 0 0 esz) (.slice id 0 es.length esz)=some (.slice did 0 0 esz,S))∨(es≠[]∧aw1 S nid esz (.slice did 0 0 esz) (.slice id 0 es.length esz)=some (.slice nid 0 es.length esz,(S.kill did).put nid (.row es.flatten))):=by
 have hfl:es.flatten.length=es.length*esz:=ah3 fun x hx=>(h x hx).1
 have hlf:es.flatten.all IV.leaf=true:=aw9 fun x hx=>(h x hx).2
 have hsrc:av9 S esz (.slice id 0 es.length esz)=some (es.length,es.flatten):=by
  simp only[av9,hs,Nat.zero_add,hfl,Nat.le_refl,and_self,if_true,List.drop_zero];rw[← hfl,List.take_length]
 by_cases h0:es=[]
 ·subst h0;refine .inl ⟨rfl,?_⟩;unfold aw1;rw[hsrc];simp[ho]
 ·refine .inr ⟨h0,?_⟩;have h1:¬ es.length=0:=fun e=>h0 (List.length_eq_zero_iff.1 e)
  unfold aw1;rw[hsrc];simp only[hlf,Bool.true_eq_false,if_false,ho,h1,and_false,Nat.zero_mul,Nat.add_zero,List.length_nil,Nat.zero_add,hn,List.drop_nil,List.all_nil,and_self,if_true,List.nil_append]
theorem cs3 (xs:List Dep)(σ:Store)(u:IV)(hu:fu2 σ u 5 (xs.map Dep.cs))(hn:xs.length≤2147483648):C Tryd.prog EE 32 [u] σ fun v s=>Kept σ s∧Grow s v 5 (xs.map Dep.cs)∧an1 σ.next v:=by
 have hall:∀ e∈xs.map Dep.cs,e.length=5∧e.all IV.leaf=true:=fun e he=>by
  obtain ⟨x,_,rfl⟩:=List.mem_map.1 he;exact ⟨bx7 x,cb3 x⟩
 have newb:∀ (o:ah2) (i:Nat),i<σ.next→((⟨σ.next+1,σ.obj⟩:Store).put σ.next o).obj i=σ.obj i:=fun o i hi=>by
  rw[aa2,if_neg (by omega)]
 have lowz:∀ (i k e:Nat),(IV.slice σ.next 0 0 5)=.slice i 0 k e→σ.next≤i:=fun i k e h=>by cases h; exact Nat.le_refl _
 rcases hu with rfl|(⟨rfl,he⟩|⟨id,rfl,ho,hid⟩)|⟨rfl,he⟩
 ·cases hx:xs with
  | nil=>
   rw[List.map_nil];refine ca8 ?_ ?_
   ·refine C_f fok32 (nZ rfl) ?_;simp only[ic32,go_sem,ae8];exact ⟨Kept.refl _,.inl ⟨rfl,rfl⟩,fun i k e h=>by cases h⟩
   ·refine C_f fok32 (nZ rfl) ?_;simp only[ic32,go_sem,ae8];rw[ar5 (by simp only[aa2,if_true]) rfl];simp only[go_sem];refine ⟨⟨by show σ.next≤σ.next+2; omega,fun i hi=>?_⟩,.inr ⟨σ.next,rfl,by simp only[aa2,if_true]; rfl,by show σ.next<σ.next+2; omega⟩,lowz⟩
    rw[aa2,if_neg (by omega)]
  | cons a as'=>
   have hne:xs.map Dep.cs≠[]:=by rw[hx]; exact fun h=>(by cases h)
   rw[← hx];refine C_f fok32 (nZ rfl) ?_;have hnil:∀ d,bk5 (.slice d) (.aa4 (xs.map Dep.cs))=some false:=fun d=>by rw[hx]; rfl
   simp only[ic32,go_sem,ae8,hnil];rw[bq2 (by simp only[aa2,if_true]) hne hall (by rw[List.length_map]; exact hn)];simp only[go_sem];refine ⟨⟨by show σ.next≤σ.next+2; omega,fun i hi=>?_⟩,.inr ⟨σ.next+1,by rw[List.length_map],by simp only[aa2,if_true],by show σ.next+1<σ.next+2; omega⟩,fun i k e h=>by cases h; omega⟩;show (if i=σ.next+1 then _ else if i=σ.next then none else if i=σ.next then _ else σ.obj i)=_;rw[if_neg (by omega),if_neg (by omega),if_neg (by omega)]
 ·have hxs:xs=[]:=List.map_eq_nil_iff.1 he;subst hxs;refine C_f fok32 (nZ rfl) ?_;simp only[ic32,go_sem,ae8];exact ⟨Kept.refl _,.inl ⟨rfl,rfl⟩,fun i k e h=>by cases h⟩
 ·rw[List.length_map];have ho':∀ o:ah2,((⟨σ.next+2,σ.obj⟩:Store).put σ.next o).obj id=some (.row (xs.map Dep.cs).flatten):=fun o=>by rw[aa2,if_neg (by omega)]; exact ho
  have hap:=dp4 (S:=(⟨σ.next+2,σ.obj⟩:Store).put σ.next (.row [])) (did:=σ.next) (nid:=σ.next+1) (by rw[aa2,if_pos rfl]) (ho' _) hall (by rw[List.length_map]; exact hn);rw[List.length_map] at hap;refine C_f fok32 (nZ rfl) ?_;have hnil:∀ d,bk5 (.slice d) (.slice id 0 xs.length 5)=some false:=fun d=>rfl
  simp only[ic32,go_sem,ae8,hnil];rcases hap with ⟨he,ha⟩|⟨hne,ha⟩
  ·rw[ha];simp only[go_sem];refine ⟨⟨by show σ.next≤σ.next+2; omega,fun i hi=>?_⟩,.inr ⟨σ.next,?_,?_,by show σ.next<σ.next+2; omega⟩,lowz⟩
   ·rw[aa2,if_neg (by omega)]
   ·rw[he]; rfl
   ·rw[aa2,if_pos rfl,he]; rfl
  ·rw[ha];simp only[go_sem];refine ⟨⟨by show σ.next≤σ.next+2; omega,fun i hi=>?_⟩,.inr ⟨σ.next+1,by rw[List.length_map],by rw[aa2,if_pos rfl],by show σ.next+1<σ.next+2; omega⟩,fun i k e h=>by cases h; omega⟩;show (if i=σ.next+1 then _ else if i=σ.next then none else if i=σ.next then _ else σ.obj i)=_;rw[if_neg (by omega),if_neg (by omega),if_neg (by omega)]
 ·refine C_f fok32 (nZ rfl) ?_;have hnil:∀ d,bk5 (.slice d) .ab4=some false:=fun d=>rfl
  simp only[ic32,go_sem,ae8,hnil];rw[ar5 (by simp only[aa2,if_true]) rfl];simp only[go_sem];refine ⟨⟨by show σ.next≤σ.next+2; omega,fun i hi=>?_⟩,.inr ⟨σ.next,by rw[he]; rfl,by simp only[aa2,if_true]; rw[he]; rfl,by show σ.next<σ.next+2; omega⟩,lowz⟩;rw[aa2,if_neg (by omega)]
theorem em5 (xs:List Str)(σ:Store)(u:IV)(hu:fu2 σ u 1 (xs.map ap4))(hn:xs.length≤2147483648):C Tryd.prog EE 33 [u] σ fun v s=>Kept σ s∧Grow s v 1 (xs.map ap4)∧an1 σ.next v:=by
 have hall:∀ e∈xs.map ap4,e.length=1∧e.all IV.leaf=true:=fun e he=>by
  obtain ⟨x,_,rfl⟩:=List.mem_map.1 he;exact ⟨rfl,rfl⟩
 have newb:∀ (o:ah2) (i:Nat),i<σ.next→((⟨σ.next+1,σ.obj⟩:Store).put σ.next o).obj i=σ.obj i:=fun o i hi=>by
  rw[aa2,if_neg (by omega)]
 have lowz:∀ (i k e:Nat),(IV.slice σ.next 0 0 1)=.slice i 0 k e→σ.next≤i:=fun i k e h=>by cases h; exact Nat.le_refl _
 rcases hu with rfl|(⟨rfl,he⟩|⟨id,rfl,ho,hid⟩)|⟨rfl,he⟩
 ·cases hx:xs with
  | nil=>
   rw[List.map_nil];refine ca8 ?_ ?_
   ·refine C_f fok33 (nZ rfl) ?_;simp only[ic33,go_sem,ae8];exact ⟨Kept.refl _,.inl ⟨rfl,rfl⟩,fun i k e h=>by cases h⟩
   ·refine C_f fok33 (nZ rfl) ?_;simp only[ic33,go_sem,ae8];rw[ar5 (by simp only[aa2,if_true]) rfl];simp only[go_sem];refine ⟨⟨by show σ.next≤σ.next+2; omega,fun i hi=>?_⟩,.inr ⟨σ.next,rfl,by simp only[aa2,if_true]; rfl,by show σ.next<σ.next+2; omega⟩,lowz⟩
    rw[aa2,if_neg (by omega)]
  | cons a as'=>
   have hne:xs.map ap4≠[]:=by rw[hx]; exact fun h=>(by cases h)
   rw[← hx];refine C_f fok33 (nZ rfl) ?_;have hnil:∀ d,bk5 (.slice d) (.aa4 (xs.map ap4))=some false:=fun d=>by rw[hx]; rfl
   simp only[ic33,go_sem,ae8,hnil];rw[bq2 (by simp only[aa2,if_true]) hne hall (by rw[List.length_map]; exact hn)];simp only[go_sem];refine ⟨⟨by show σ.next≤σ.next+2; omega,fun i hi=>?_⟩,.inr ⟨σ.next+1,by rw[List.length_map],by simp only[aa2,if_true],by show σ.next+1<σ.next+2; omega⟩,fun i k e h=>by cases h; omega⟩;show (if i=σ.next+1 then _ else if i=σ.next then none else if i=σ.next then _ else σ.obj i)=_;rw[if_neg (by omega),if_neg (by omega),if_neg (by omega)]
 ·have hxs:xs=[]:=List.map_eq_nil_iff.1 he;subst hxs;refine C_f fok33 (nZ rfl) ?_;simp only[ic33,go_sem,ae8];exact ⟨Kept.refl _,.inl ⟨rfl,rfl⟩,fun i k e h=>by cases h⟩
 ·rw[List.length_map];have ho':∀ o:ah2,((⟨σ.next+2,σ.obj⟩:Store).put σ.next o).obj id=some (.row (xs.map ap4).flatten):=fun o=>by rw[aa2,if_neg (by omega)]; exact ho
  have hap:=dp4 (S:=(⟨σ.next+2,σ.obj⟩:Store).put σ.next (.row [])) (did:=σ.next) (nid:=σ.next+1) (by rw[aa2,if_pos rfl]) (ho' _) hall (by rw[List.length_map]; exact hn);rw[List.length_map] at hap;refine C_f fok33 (nZ rfl) ?_;have hnil:∀ d,bk5 (.slice d) (.slice id 0 xs.length 1)=some false:=fun d=>rfl
  simp only[ic33,go_sem,ae8,hnil];rcases hap with ⟨he,ha⟩|⟨hne,ha⟩
  ·rw[ha];simp only[go_sem];refine ⟨⟨by show σ.next≤σ.next+2; omega,fun i hi=>?_⟩,.inr ⟨σ.next,?_,?_,by show σ.next<σ.next+2; omega⟩,lowz⟩
   ·rw[aa2,if_neg (by omega)]
   ·rw[he]; rfl
   ·rw[aa2,if_pos rfl,he]; rfl
  ·rw[ha];simp only[go_sem];refine ⟨⟨by show σ.next≤σ.next+2; omega,fun i hi=>?_⟩,.inr ⟨σ.next+1,by rw[List.length_map],by rw[aa2,if_pos rfl],by show σ.next+1<σ.next+2; omega⟩,fun i k e h=>by cases h; omega⟩;show (if i=σ.next+1 then _ else if i=σ.next then none else if i=σ.next then _ else σ.obj i)=_;rw[if_neg (by omega),if_neg (by omega),if_neg (by omega)]
 ·refine C_f fok33 (nZ rfl) ?_;have hnil:∀ d,bk5 (.slice d) .ab4=some false:=fun d=>rfl
  simp only[ic33,go_sem,ae8,hnil];rw[ar5 (by simp only[aa2,if_true]) rfl];simp only[go_sem];refine ⟨⟨by show σ.next≤σ.next+2; omega,fun i hi=>?_⟩,.inr ⟨σ.next,by rw[he]; rfl,by simp only[aa2,if_true]; rw[he]; rfl,by show σ.next<σ.next+2; omega⟩,lowz⟩;rw[aa2,if_neg (by omega)]
theorem ao5 (xs:List aa8)(σ:Store)(u:IV)(hu:fu2 σ u 7 (xs.map aa8.cs))(hn:xs.length≤2147483648):C Tryd.prog EE 34 [u] σ fun v s=>Kept σ s∧Grow s v 7 (xs.map aa8.cs)∧an1 σ.next v:=by
 have hall:∀ e∈xs.map aa8.cs,e.length=7∧e.all IV.leaf=true:=fun e he=>by
  obtain ⟨x,_,rfl⟩:=List.mem_map.1 he;exact ⟨ac1 x,ac3 x⟩
 have newb:∀ (o:ah2) (i:Nat),i<σ.next→((⟨σ.next+1,σ.obj⟩:Store).put σ.next o).obj i=σ.obj i:=fun o i hi=>by
  rw[aa2,if_neg (by omega)]
 have lowz:∀ (i k e:Nat),(IV.slice σ.next 0 0 7)=.slice i 0 k e→σ.next≤i:=fun i k e h=>by cases h; exact Nat.le_refl _
 rcases hu with rfl|(⟨rfl,he⟩|⟨id,rfl,ho,hid⟩)|⟨rfl,he⟩
 ·cases hx:xs with
  | nil=>
   rw[List.map_nil];refine ca8 ?_ ?_
   ·refine C_f fok34 (nZ rfl) ?_;simp only[ic34,go_sem,ae8];exact ⟨Kept.refl _,.inl ⟨rfl,rfl⟩,fun i k e h=>by cases h⟩
   ·refine C_f fok34 (nZ rfl) ?_;simp only[ic34,go_sem,ae8];rw[ar5 (by simp only[aa2,if_true]) rfl];simp only[go_sem];refine ⟨⟨by show σ.next≤σ.next+2; omega,fun i hi=>?_⟩,.inr ⟨σ.next,rfl,by simp only[aa2,if_true]; rfl,by show σ.next<σ.next+2; omega⟩,lowz⟩
    rw[aa2,if_neg (by omega)]
  | cons a as'=>
   have hne:xs.map aa8.cs≠[]:=by rw[hx]; exact fun h=>(by cases h)
   rw[← hx];refine C_f fok34 (nZ rfl) ?_;have hnil:∀ d,bk5 (.slice d) (.aa4 (xs.map aa8.cs))=some false:=fun d=>by rw[hx]; rfl
   simp only[ic34,go_sem,ae8,hnil];rw[bq2 (by simp only[aa2,if_true]) hne hall (by rw[List.length_map]; exact hn)];simp only[go_sem];refine ⟨⟨by show σ.next≤σ.next+2; omega,fun i hi=>?_⟩,.inr ⟨σ.next+1,by rw[List.length_map],by simp only[aa2,if_true],by show σ.next+1<σ.next+2; omega⟩,fun i k e h=>by cases h; omega⟩;show (if i=σ.next+1 then _ else if i=σ.next then none else if i=σ.next then _ else σ.obj i)=_;rw[if_neg (by omega),if_neg (by omega),if_neg (by omega)]
 ·have hxs:xs=[]:=List.map_eq_nil_iff.1 he;subst hxs;refine C_f fok34 (nZ rfl) ?_;simp only[ic34,go_sem,ae8];exact ⟨Kept.refl _,.inl ⟨rfl,rfl⟩,fun i k e h=>by cases h⟩
 ·rw[List.length_map];have ho':∀ o:ah2,((⟨σ.next+2,σ.obj⟩:Store).put σ.next o).obj id=some (.row (xs.map aa8.cs).flatten):=fun o=>by rw[aa2,if_neg (by omega)]; exact ho
  have hap:=dp4 (S:=(⟨σ.next+2,σ.obj⟩:Store).put σ.next (.row [])) (did:=σ.next) (nid:=σ.next+1) (by rw[aa2,if_pos rfl]) (ho' _) hall (by rw[List.length_map]; exact hn);rw[List.length_map] at hap;refine C_f fok34 (nZ rfl) ?_;have hnil:∀ d,bk5 (.slice d) (.slice id 0 xs.length 7)=some false:=fun d=>rfl
  simp only[ic34,go_sem,ae8,hnil];rcases hap with ⟨he,ha⟩|⟨hne,ha⟩
  ·rw[ha];simp only[go_sem];refine ⟨⟨by show σ.next≤σ.next+2; omega,fun i hi=>?_⟩,.inr ⟨σ.next,?_,?_,by show σ.next<σ.next+2; omega⟩,lowz⟩
   ·rw[aa2,if_neg (by omega)]
   ·rw[he]; rfl
   ·rw[aa2,if_pos rfl,he]; rfl
  ·rw[ha];simp only[go_sem];refine ⟨⟨by show σ.next≤σ.next+2; omega,fun i hi=>?_⟩,.inr ⟨σ.next+1,by rw[List.length_map],by rw[aa2,if_pos rfl],by show σ.next+1<σ.next+2; omega⟩,fun i k e h=>by cases h; omega⟩;show (if i=σ.next+1 then _ else if i=σ.next then none else if i=σ.next then _ else σ.obj i)=_;rw[if_neg (by omega),if_neg (by omega),if_neg (by omega)]
 ·refine C_f fok34 (nZ rfl) ?_;have hnil:∀ d,bk5 (.slice d) .ab4=some false:=fun d=>rfl
  simp only[ic34,go_sem,ae8,hnil];rw[ar5 (by simp only[aa2,if_true]) rfl];simp only[go_sem];refine ⟨⟨by show σ.next≤σ.next+2; omega,fun i hi=>?_⟩,.inr ⟨σ.next,by rw[he]; rfl,by simp only[aa2,if_true]; rw[he]; rfl,by show σ.next<σ.next+2; omega⟩,lowz⟩;rw[aa2,if_neg (by omega)]
end Go.Id.Tryd
