/- Pools: how they are made. Conditions: none. -/
import Derived.Test.YtiallonafbejaaaGreatDoorTUPE
import Derived.Test.YtiallonafbejaaaGreatDoorMd
set_option linter.all false
namespace Go.Id.Tryz
open Go Go.Id Go.Proofs Go.Id.Md
theorem prow_len (r : PRow) : r.cs.length=17:=by unfold PRow.cs; rw [List.length_append]; rfl
theorem prow_leaf (r : PRow) : r.cs.all IV.leaf=true:=by unfold PRow.cs; rw [List.all_append]; rfl
theorem bnd_prow (r : PRow) : ∀ c∈r.cs,Bnd 0 c:=by
 intro c hc
 unfold PRow.cs at hc
 rcases List.mem_append.1 hc with h | h
 ·exact bnd_pkg _ c h
 ·simp only [List.mem_cons,List.not_mem_nil,or_false] at h
  rcases h with rfl | rfl <;> exact .int _ _
theorem grow_len {s s' : Store} {v : IV} {esz : Nat} {es : List (List IV)} (h : Grow s v esz es) : lenK 0 s' v=some (.int .i64 es.length):=by
 rcases h with ⟨rfl,rfl⟩ | ⟨id,rfl,_⟩ <;> rfl
structure PS (s : Store) (pp mid : Nat) (rows : List PRow) (inst : Int) (L : NmL) (rv : IV) (B : Nat) : Prop where
 cell : s.obj pp=some (.cells [rv,.int .i64 inst,.map mid])
 grow : Grow s rv 17 (rows.map PRow.cs)
 map : s.obj mid=some (.map (mEs L))
 row : ∀ t∈L,s.obj t.2.2=some (.row (t.2.1.map intC).flatten)∧t.2.2 < s.next∧t.2.1.length≤B
 ids : (L.map (·.2.2)).Nodup
 keys : (L.map (·.1)).Nodup
 ne : ∀ id n,rv=.slice id 0 n 17→∀ t∈L,t.2.2≠id
 lt : pp < s.next∧mid < s.next
theorem PS.mono {s s' : Store} {pp mid : Nat} {rows : List PRow} {inst : Int} {L : NmL} {rv : IV} {B : Nat} (h : PS s pp mid rows inst L rv B) (hn : s.next≤s'.next) (ho : ∀ i,i < s.next→s'.obj i=s.obj i) : PS s' pp mid rows inst L rv B where
 cell:=by rw [ho _ h.lt.1]; exact h.cell
 grow:=h.grow.mono hn fun id _ hid => ho id hid
 map:=by rw [ho _ h.lt.2]; exact h.map
 row:=fun t ht => ⟨by rw [ho _ (h.row t ht).2.1]; exact (h.row t ht).1,by have:=(h.row t ht).2.1; omega,(h.row t ht).2.2⟩
 ids:=h.ids
 keys:=h.keys
 ne:=h.ne
 lt:=⟨by have:=h.lt.1; omega,by have:=h.lt.2; omega⟩
theorem int_all (l : List Int) : ∀ e∈l.map Md.intC,e.length=1∧e.all IV.leaf=true:=fun e he => by
 obtain ⟨x,_,rfl⟩:=List.mem_map.1 he
 exact ⟨rfl,rfl⟩
theorem prow_all (l : List PRow) : ∀ e∈l.map PRow.cs,e.length=17∧e.all IV.leaf=true:=fun e he => by
 obtain ⟨x,_,rfl⟩:=List.mem_map.1 he
 exact ⟨prow_len x,prow_leaf x⟩
theorem PS.name {s : Store} {pp mid : Nat} {rows : List PRow} {inst : Int} {L : NmL} {rv : IV} {B : Nat} (h : PS s pp mid rows inst L rv B) (k : Str) (n : Int) (m nid : Nat) (hm : s.next≤m) (hnew : s.next≤nid) (hb : B < 2 ^ 30) :
  ∃ s1,appI ⟨m,s.obj⟩ nid 1 (curV L k) (.tslice [[.int .i64 n]])=some (.slice nid 0 ((curL L k).length+1) 1,s1)∧s1.next=m∧s1.obj mid=some (.map (mEs L))∧(∀ i cs,i < s.next→s.obj i=some (.cells cs)→s1.obj i=some (.cells cs)) ∧
   ∀ nx,nid < nx→PS ⟨nx,(s1.put mid (.map (mEs (updM L k n nid)))).obj⟩ pp mid rows inst (updM L k n nid) rv (B+1):=by
 have hg0 : Grow s (curV L k) 1 ((curL L k).map Md.intC):=by
  rcases cur_spec L k with ⟨h1,h2⟩ | ⟨t,ht,_,h1,h2⟩
  ·rw [h1,h2]; exact .inl ⟨rfl,rfl⟩
  ·rw [h1,h2]; exact .inr ⟨t.2.2,by rw [List.length_map],(h.row t ht).1,(h.row t ht).2.1⟩
 have hg : Grow ⟨m,s.obj⟩ (curV L k) 1 ((curL L k).map Md.intC):=Grow.mono (σ:=s) hg0 hm fun _ _ _ => rfl
 have hlen : (curL L k).length≤B:=by
  rcases cur_spec L k with ⟨h1,h2⟩ | ⟨t,ht,_,h1,h2⟩
  ·rw [h2]; exact Nat.zero_le _
  ·rw [h2]; exact (h.row t ht).2.2
 have hap:=app_grow (nid:=nid) (e:=[.int .i64 n]) hg (int_all _) ⟨rfl,rfl⟩ (by rw [List.length_map]; omega)
 rw [List.length_map] at hap
 have hmid : ¬ mid=nid:=by have:=h.lt.2; omega
 have hpp : ¬ pp=nid:=by have:=h.lt.1; omega
 have hpm : ¬ pp=mid:=fun e => by have h1:=h.cell; have h2:=h.map; rw [e,h2] at h1; cases h1
 have km:=killv_obj hg mid _ h.map (fun _ e => by cases e)
 have kp:=killv_obj hg pp _ h.cell (fun _ e => by cases e)
 have kother : ∀ i cs,s.obj i=some (.row cs)→(∀ t∈L,t.1=k→t.2.2≠i)→(killv (curV L k) ⟨m,s.obj⟩).obj i=some (.row cs):=by
  intro i cs hi hne
  rcases cur_spec L k with ⟨h1,_⟩ | ⟨t,ht,hk,h1,_⟩
  ·rw [h1]; exact hi
  ·rw [h1]
   show (if i=t.2.2 then none else s.obj i)=_
   rw [if_neg (fun e => hne t ht hk e.symm)]; exact hi
 refine ⟨_,hap,by rw [put_next,killv_next],by rw [put_obj,if_neg hmid]; exact km,fun i cs hi h => by rw [put_obj,if_neg (by omega)]; exact killv_obj hg i _ h (fun _ e => by cases e),fun nx hnx => ?_⟩
 have hrow_ne_mid : ∀ i cs,s.obj i=some (.row cs)→¬ i=mid:=fun i cs hi e => by subst e; rw [h.map] at hi; cases hi
 exact {
  cell:=by
   show (if pp=mid then _ else if pp=nid then _ else (killv (curV L k) ⟨m,s.obj⟩).obj pp)=_
   rw [if_neg hpm,if_neg hpp]; exact kp
  grow:=by
   rcases h.grow with h1 | ⟨id,hv,ho,hlt⟩
   ·exact .inl h1
   ·refine .inr ⟨id,hv,?_,by show id < nx; omega⟩
    show (if id=mid then _ else if id=nid then _ else (killv (curV L k) ⟨m,s.obj⟩).obj id)=_
    rw [if_neg (hrow_ne_mid _ _ ho),if_neg (by omega)]
    exact kother id _ ho fun t ht _ => h.ne id _ hv t ht
  map:=by
   show (if mid=mid then _ else _)=_
   rw [if_pos rfl]
  row:=by
   intro t ht
   rcases upd_mem h.keys t ht with ⟨h1,h2⟩ | rfl
   ·obtain ⟨r1,r2,r3⟩:=h.row t h1
    refine ⟨?_,by show t.2.2 < nx; omega,by omega⟩
    show (if t.2.2=mid then _ else if t.2.2=nid then _ else (killv (curV L k) ⟨m,s.obj⟩).obj t.2.2)=_
    rw [if_neg (hrow_ne_mid _ _ r1),if_neg (by omega)]
    exact kother _ _ r1 fun u hu hk e => h2 (by rw [← ids_inj h.keys h.ids u hu t h1 e]; exact hk)
   ·refine ⟨?_,hnx,?_⟩
    ·show (if nid=mid then _ else if nid=nid then _ else _)=_
     rw [if_neg (fun e => hmid e.symm),if_pos rfl,List.map_append]
     rfl
    ·show (curL L k ++ [n]).length≤B+1
     rw [List.length_append]; simp; exact hlen
  ids:=(upd_ids L h.ids (fun hm => by
   obtain ⟨t,ht,e⟩:=List.mem_map.1 hm
   have:=(h.row t ht).2.1
   have e' : t.2.2=nid:=e
   omega)).1
  keys:=(upd_keys L h.keys).1
  ne:=by
   intro id m hv t ht
   rcases upd_mem h.keys t ht with ⟨h1,h2⟩ | rfl
   ·exact h.ne id m hv t h1
   ·rcases h.grow with ⟨h1,_⟩ | ⟨id',hv',ho,hlt⟩
    ·rw [h1] at hv; cases hv
    ·rw [hv'] at hv
     cases hv
     show nid≠id
     omega
  lt:=⟨by have:=h.lt.1; show pp < nx; omega,by have:=h.lt.2; show mid < nx; omega⟩ }
theorem lkp_m {σ : Store} {mid : Nat} {L : NmL} (h : σ.obj mid=some (.map (mEs L))) (k : Str) : lkpI σ 2 .nilslice false (.map mid) (.str k)=some (curV L k):=by
 obtain ⟨r,h1,h2⟩:=look_m' L k
 simp only [lkpI,mapAt,h,h1,h2,Bool.false_eq_true,if_false]
theorem mupd_m {σ : Store} {mid : Nat} {L : NmL} (h : σ.obj mid=some (.map (mEs L))) (k : Str) (n : Int) (nid : Nat) : mapUpdI σ 2 (.map mid) (.str k) (.slice nid 0 ((curL L k).length+1) 1)=some (σ.put mid (.map (mEs (updM L k n nid)))):=by
 simp only [mapUpdI,h,upd_m L k n nid,Option.map]
theorem pkg_head (x : Package) : x.cs.head? = some (.str x.name):=rfl
theorem bl1 (x : Package) : (x.cs ++ [IV.int .i64 0,IV.int .i64 0]).length=17:=rfl
theorem bl2 (x : Package) (a : Int) : (putL (x.cs ++ [IV.int .i64 0,IV.int .i64 0]) 15 [IV.int .i64 a]).length=17:=rfl
theorem bl3 (x : Package) (a b : Int) : putL (putL (x.cs ++ [IV.int .i64 0,IV.int .i64 0]) 15 [IV.int .i64 a]) 16 [IV.int .i64 b]=(PRow.mk x a b).cs:=rfl
theorem prow_take (r : PRow) : r.cs.take 17=r.cs:=List.take_of_length_le (by rw [prow_len]; exact Nat.le_refl _)
theorem PS.push {s : Store} {pp mid : Nat} {rows : List PRow} {inst : Int} {L : NmL} {rv : IV} {B : Nat} (h : PS s pp mid rows inst L rv B) (r : PRow) (m nid : Nat) (hm : s.next≤m) (hnew : s.next≤nid) (hb : rows.length < 2 ^ 30) :
  ∃ s1,appI ⟨m,s.obj⟩ nid 17 rv (.tslice [r.cs])=some (.slice nid 0 (rows.length+1) 17,s1)∧s1.next=m∧s1.obj pp=s.obj pp ∧
   ∀ nx,nid < nx→PS ⟨nx,(s1.put pp (.cells [.slice nid 0 (rows.length+1) 17,.int .i64 inst,.map mid])).obj⟩ pp mid (rows ++ [r]) inst L (.slice nid 0 (rows.length+1) 17) B:=by
 have hg : Grow ⟨m,s.obj⟩ rv 17 (rows.map PRow.cs):=Grow.mono (σ:=s) h.grow hm fun _ _ _ => rfl
 have hap:=app_grow (nid:=nid) (e:=r.cs) hg (prow_all rows) ⟨prow_len r,prow_leaf r⟩ (by rw [List.length_map]; omega)
 rw [List.length_map] at hap
 have hmid : ¬ mid=nid:=by have:=h.lt.2; omega
 have hpp : ¬ pp=nid:=by have:=h.lt.1; omega
 have hmp : ¬ mid=pp:=fun e => by have h1:=h.cell; have h2:=h.map; rw [← e,h2] at h1; cases h1
 have km:=killv_obj hg mid _ h.map (fun _ e => by cases e)
 have kp:=killv_obj hg pp _ h.cell (fun _ e => by cases e)
 refine ⟨_,hap,by rw [put_next,killv_next],by rw [put_obj,if_neg hpp,kp,h.cell],fun nx hnx => ?_⟩
 exact {
  cell:=by
   show (if pp=pp then _ else _)=_
   rw [if_pos rfl]
  grow:=by
   refine .inr ⟨nid,by rw [List.map_append,List.length_append,List.length_map]; rfl,?_,hnx⟩
   show (if nid=pp then _ else if nid=nid then _ else _)=_
   rw [if_neg (fun e => hpp e.symm),if_pos rfl,List.map_append]; rfl
  map:=by
   show (if mid=pp then _ else if mid=nid then _ else (killv rv ⟨m,s.obj⟩).obj mid)=_
   rw [if_neg hmp,if_neg hmid]; exact km
  row:=by
   intro t ht
   obtain ⟨r1,r2,r3⟩:=h.row t ht
   refine ⟨?_,by show t.2.2 < nx; omega,r3⟩
   have e1 : ¬ t.2.2=pp:=fun e => by rw [e,h.cell] at r1; cases r1
   show (if t.2.2=pp then _ else if t.2.2=nid then _ else (killv rv ⟨m,s.obj⟩).obj t.2.2)=_
   rw [if_neg e1,if_neg (by omega)]
   rcases h.grow with ⟨hv,_⟩ | ⟨id,hv,ho,hlt⟩
   ·rw [hv]; exact r1
   ·rw [hv]
    show (if t.2.2=id then none else s.obj t.2.2)=_
    rw [if_neg (h.ne id _ hv t ht)]; exact r1
  ids:=h.ids
  keys:=h.keys
  ne:=by
   intro id m hv t ht
   cases hv
   have:=(h.row t ht).2.1
   omega
  lt:=⟨by have:=h.lt.1; show pp < nx; omega,by have:=h.lt.2; show mid < nx; omega⟩ }
def addQ (n pp mid : Nat) (rows : List PRow) (inst : Int) (nm : Nms) (l : List Package) (repo prio : Int) : IV→Store→Prop:=fun v s =>
 n≤s.next∧((l.all pkgMay=true∧v=.int .i64 0∧∃ L rv,nmOf L=nmAll nm rows.length l∧PS s pp mid (rows ++ rowsOf l repo prio) inst L rv (rows.length+l.length)) ∨ (l.all pkgMay=false∧v=.int .i64 4))
theorem add_c (l : List Package) (hl : l.length < 2 ^ 20) (hf : ∀ p∈l,p.Fit) (repo prio : Int) (σ : Store) (pp mid : Nat) (rows : List PRow) (hr : rows.length < 2 ^ 20) (inst : Int) (L : NmL) (rv : IV) (hp : PS σ pp mid rows inst L rv rows.length) :
  C Tryz.prog EE 69 [.ptr pp 0,.tslice (l.map Package.cs),.int .i64 repo,.int .i64 prio] σ (addQ σ.next pp mid rows inst (nmOf L) l repo prio):=by
 refine C_f fok69 (Nat.le_of_ble_eq_true rfl) ?_
 simp only [ic69,go_sem]
 refine loop_up noT (fun i fr s => fr=[(0,.ptr pp 0),(2,.int .i64 repo),(3,.int .i64 prio),(11,.tslice (l.map Package.cs)),(12,.int .i64 l.length),(13,.int .i64 i)]∧σ.next≤s.next∧(l.take i).all pkgMay=true ∧
  ∃ L' rv',nmAll (nmOf L') (rows.length+i) (l.drop i)=nmAll (nmOf L) rows.length l∧PS s pp mid (rows ++ rowsOf (l.take i) repo prio) inst L' rv' (rows.length+i)) l.length ⟨rfl,Nat.le_refl _,rfl,L,rv,rfl,by simpa [rowsOf] using hp⟩ ?_
 rintro i fr s hle ⟨rfl,hn,hall,L',rv',hnm,h⟩
 by_cases hlt : i < l.length
 ·obtain ⟨x,hx,_,hdr,hget,htk⟩:=at_nth l i hlt
  have c1 : (i : Int) < l.length:=by omega
  have c2 : (0 : Int)≤i:=by omega
  have w1:=wrapS (i:=i) (by omega)
  simp only [go_sem,c1,c2,hget,pkg_len,pkg_take,pkg_leaf]
  refine callP_of (pkgMay_pc x (hf x hx)) ?_
  cases hm : pkgMay x with
  | false =>
   have : l.all pkgMay=false:=by rw [List.all_eq_false]; exact ⟨x,hx,by simp [hm]⟩
   simp only [go_sem]
   exact ⟨by simp only [put_next]; omega,.inr ⟨this,rfl⟩⟩
  | true =>
   generalize hS : Store.mk (s.next+1) _=S1
   have hS1 : S1.next=s.next+1:=by rw [← hS]
   have hbx : S1.obj s.next=some (.cells x.cs):=by
    rw [← hS]; simp only [put_obj,if_true]
   have h1 : PS S1 pp mid (rows ++ rowsOf (l.take i) repo prio) inst L' rv' (rows.length+i):=h.mono (by omega) fun j hj => by
    have e : ¬ j=s.next:=by omega
    rw [← hS]; simp only [put_obj,e,if_false]
   have hlen:=grow_len (s':=⟨S1.next+21,S1.obj⟩) h1.grow
   have hrl : ((rows ++ rowsOf (l.take i) repo prio).map PRow.cs).length=rows.length+i:=by
    rw [List.length_map,List.length_append,rowsOf,List.length_map,List.length_take]; omega
   rw [hrl] at hlen
   obtain ⟨s2,ha1,ha2,ha3,ha4,hps⟩:=h1.name x.name ((rows.length+i : Nat) : Int) (S1.next+21) (S1.next+19) (by omega) (by omega) (by omega)
   have hlk:=lkp_m (σ:=⟨S1.next+21,S1.obj⟩) h1.map x.name
   simp only [go_sem,Nat.add_assoc,h1.cell,hbx,hlen,pkg_head,hlk]
   rw [ha1]
   simp only [go_sem,Nat.add_assoc]
   rw [mupd_m ha3 x.name ((rows.length+i : Nat) : Int)]
   have h2:=hps (S1.next+21) (by omega)
   have hmb : ¬ s.next=mid:=by have:=h.lt.2; omega
   have hb2 : (s2.put mid (IObj.map (mEs (updM L' x.name ((rows.length+i : Nat) : Int) (S1.next+19))))).obj s.next=some (.cells x.cs):=by
    simp only [put_obj,hmb,if_false]
    exact ha4 _ _ (by omega) hbx
   have hn3 : (s2.put mid (IObj.map (mEs (updM L' x.name ((rows.length+i : Nat) : Int) (S1.next+19))))).next=S1.next+21:=ha2
   generalize s2.put mid (IObj.map (mEs (updM L' x.name ((rows.length+i : Nat) : Int) (S1.next+19))))=S3 at *
   obtain ⟨s4,hb3,hb4,hb5,hps2⟩:=h2.push ⟨x,repo,prio⟩ (S3.next+15) (S3.next+11) (by show S1.next+21≤_; omega) (by show S1.next+21≤_; omega) (by rw [List.length_append,rowsOf,List.length_map,List.length_take]; omega)
   have hc3:=h2.cell
   simp only at hc3 hb3
   simp only [go_sem,Nat.add_assoc,hc3,hb2,pkg_len,pkg_take,pkg_leaf]
   refine callP_of (pkgCopy_pc x (hf x hx)) ?_
   simp only [go_sem,Nat.add_assoc,pkg_len,pkg_take,pkg_leaf,bl1,bl2,bl3,prow_len,prow_leaf,prow_take,List.append_nil,List.drop_nil]
   rw [hb3]
   have hc4 : s4.obj pp=some (.cells [rv',.int .i64 inst,.map mid]):=by rw [hb5]; exact hc3
   simp only [go_sem,Nat.add_assoc,hc4,w1]
   have h5:=hps2 s4.next (by rw [hb4]; omega)
   refine ⟨hlt,by omega,?_,updM L' x.name ((rows.length+i : Nat) : Int) (S1.next+19),.slice (S3.next+11) 0 ((rows ++ rowsOf (l.take i) repo prio).length+1) 17,?_,?_⟩
   ·rw [htk,List.all_append,hall]; simp [hm]
   rotate_left
   ·rw [htk,rowsOf_snoc,← List.append_assoc]
    exact h5
   ·rw [← hnm,hdr,nmAll,nmOf_upd,← Nat.add_assoc]
 ·have hi' : i=l.length:=by omega
  subst hi'
  have c1 : ¬ (l.length : Int) < l.length:=by omega
  simp only [go_sem,c1]
  rw [List.take_length] at hall h
  rw [List.drop_length] at hnm
  exact ⟨hn,.inl ⟨hall,rfl,L',rv',hnm,h⟩⟩
def Repo.Fit (r : Repo) : Prop:=r.packages.length < 2 ^ 20∧∀ p∈r.packages,p.Fit
theorem bnd_repo (r : Repo) : ∀ c∈r.cs,Bnd 0 c:=by
 intro c hc
 simp only [Repo.cs,List.mem_cons,List.not_mem_nil,or_false] at hc
 rcases hc with rfl | rfl
 ·exact .int _ _
 ·exact .tslice _ fun e he c hc => by
   obtain ⟨p,_,rfl⟩:=List.mem_map.1 he; exact bnd_pkg p c hc
abbrev pkgsV (l : List Package) : IV:=.tslice (l.map Package.cs)
abbrev reposV (l : List Repo) : IV:=.tslice (l.map Repo.cs)
theorem bnd_pkgs (l : List Package) : Bnd 0 (pkgsV l):=.tslice _ fun e he c hc => by
 obtain ⟨p,_,rfl⟩:=List.mem_map.1 he; exact bnd_pkg p c hc
theorem bnd_repos (l : List Repo) : Bnd 0 (reposV l):=.tslice _ fun e he c hc => by
 obtain ⟨p,_,rfl⟩:=List.mem_map.1 he; exact bnd_repo p c hc
theorem two_mem {P : IV→Prop} {u v : IV} (hu : P u) (hv : P v) : ∀ a∈[u,v],P a:=fun a ha => by
 cases ha with
 | head => exact hu
 | tail _ h => cases h with
  | head => exact hv
  | tail _ h => cases h
theorem repo_len (r : Repo) : r.cs.length=2:=rfl
theorem repo_leaf (r : Repo) : r.cs.all IV.leaf=true:=rfl
theorem repo_take (r : Repo) : r.cs.take 2=r.cs:=rfl
theorem sum_drop (l : List Repo) (i : Nat) (a : Repo) (h : l.drop i=a :: l.drop (i+1)) : sumLen (l.drop i)=a.packages.length+sumLen (l.drop (i+1)):=by
 rw [h]; simp [sumLen]
theorem PS.frz {s : Store} {pp mid : Nat} {rows : List PRow} {inst : Int} {L : NmL} {rv : IV} {B : Nat} (h : PS s pp mid rows inst L rv B) : FrzN s 0 (.ptr pp 0) (Pool.v ⟨rows,inst,nmOf L⟩):=by
 refine .ptr pp 0 _ _ (Nat.not_lt_zero _) (.inl h.cell) (Nat.le_refl _) fun j hj => ?_
 have hj3 : j=0 ∨ j=1 ∨ j=2:=by simp only [List.length_cons,List.length_nil] at hj; omega
 rcases hj3 with rfl | rfl | rfl
 ·refine h.grow.frz (fun x hx => (prow_all rows x hx).1) (fun _ _ => Nat.not_lt_zero _) fun e he c hc => ?_
  obtain ⟨r,_,rfl⟩:=List.mem_map.1 he
  exact bnd_prow r c hc
 ·exact frz_int _ _
 ·have hat : ∀ i,i < (mEs L).length→∃ t∈L,(mEs L).getD i (.undef,.undef)=(.str t.1,.slice t.2.2 0 t.2.1.length 1)∧(nmV (nmOf L)).getD i (.undef,.undef)=(.str t.1,.tslice (t.2.1.map Md.intC)):=by
   intro i hi
   have hi' : i < L.length:=by simpa [mEs] using hi
   exact ⟨L[i],List.getElem_mem hi',by simp [mEs,List.getD_eq_getElem?_getD,hi'],by simp [nmV,nmOf,List.getD_eq_getElem?_getD,hi']⟩
  refine .map mid (mEs L) (nmV (nmOf L)) (nmV (nmOf L)) (Nat.not_lt_zero _) h.map (by simp [nmV,nmOf,mEs]) (List.Perm.refl _) ⟨?_,.str,fun e he => ?_⟩ (fun i hi => ?_) (fun i hi => ?_)
  ·have : (nmV (nmOf L)).map (·.1)=(L.map (·.1)).map IV.str:=by simp [nmV,nmOf]
   rw [this]
   exact List.Pairwise.map _ (fun a b hab e => hab (by cases e; rfl)) h.keys
  ·simp only [nmV,List.mem_map] at he
   obtain ⟨t,_,rfl⟩:=he
   trivial
  ·obtain ⟨t,ht,e1,e2⟩:=hat i hi
   rw [e1,e2]; exact frz_str _
  ·obtain ⟨t,ht,e1,e2⟩:=hat i hi
   rw [e1,e2]
   obtain ⟨r1,r2,_⟩:=h.row t ht
   have hg : Grow s (.slice t.2.2 0 t.2.1.length 1) 1 (t.2.1.map Md.intC):=.inr ⟨t.2.2,by rw [List.length_map],r1,r2⟩
   refine hg.frz (fun x hx => (int_all _ x hx).1) (fun _ _ => Nat.not_lt_zero _) fun e he c hc => ?_
   obtain ⟨n,_,rfl⟩:=List.mem_map.1 he
   cases hc with
   | head => exact .int _ _
   | tail _ h => cases h
theorem frz_err {s : Store} (n : Int) : FrzN s 0 (.tuple [.nilptr,.int .i64 n]) (.tuple [.nilptr,.int .i64 n]):=.tuple2 (.cons (.keep _ .nilptr) (.cons (frz_int _ _) .nil))
theorem poolNew_pc (repos : List Repo) (inst : List Package) (h1 : repos.length < 2 ^ 20) (h2 : inst.length < 2 ^ 20) (h3 : sumLen repos < 2 ^ 40) (hr : ∀ r∈repos,Repo.Fit r) (hi : ∀ p∈inst,p.Fit) :
  PC Tryz.prog EE 15 [reposV repos,pkgsV inst] (newV (newM repos inst)):=by
 refine PC_e hE fok15 (Nat.le_of_ble_eq_true rfl) (two_mem (bnd_repos _) (bnd_pkgs _)) ?_
 simp only [ic15,go_sem]
 refine loop_up noT (fun i fr s => ∃ n : Nat,fr=[(0,reposV repos),(1,pkgsV inst),(6,.int .i64 n),(16,reposV repos),(17,.int .i64 repos.length),(18,.int .i64 i)]∧n+sumLen (repos.drop i)=inst.length+sumLen repos) repos.length ⟨inst.length,rfl,rfl⟩ ?_
 rintro i fr s hle ⟨n,rfl,hn⟩
 by_cases hlt : i < repos.length
 ·obtain ⟨a,ha,_,hdr,hget,htk⟩:=at_nth repos i hlt
  have c1 : (i : Int) < repos.length:=by omega
  have c2 : (0 : Int)≤i:=by omega
  have w1:=wrapS (i:=i) (by omega)
  rw [sum_drop repos i a hdr] at hn
  have w2 : IntKind.i64.wrap ((n : Int)+a.packages.length)=((n+a.packages.length : Nat) : Int):=by
   rw [wrap64 (by omega) (by omega)]; omega
  simp only [go_sem,c1,c2,hget,repo_len,repo_take,repo_leaf]
  simp only [go_sem,Repo.cs,w1,w2]
  exact ⟨hlt,n+a.packages.length,rfl,by omega⟩
 have hi' : i=repos.length:=by omega
 subst hi'
 have c1 : ¬ (repos.length : Int) < repos.length:=by omega
 have hn0 : n=inst.length+sumLen repos:=by rw [List.drop_length] at hn; simpa [sumLen] using hn
 subst hn0
 by_cases b1 : 16 < repos.length
 ·have b1' : (16 : Int) < repos.length:=by omega
  simp only [go_sem,c1,b1',newM,b1,true_or]
  exact .tuple2 (.cons (.keep _ .nilptr) (.cons (frz_int _ _) .nil))
 have b1' : ¬ (16 : Int) < repos.length:=by omega
 by_cases b2 : 256 < inst.length+sumLen repos
 ·have b2' : (256 : Int) < ((inst.length+sumLen repos : Nat) : Int):=by omega
  simp only [go_sem,c1,b1',b2',newM,b1,b2,or_true]
  exact .tuple2 (.cons (.keep _ .nilptr) (.cons (frz_int _ _) .nil))
 have b2' : ¬ (256 : Int) < ((inst.length+sumLen repos : Nat) : Int):=by omega
 simp only [go_sem,c1,b1',b2']
 have hp0 : PS ⟨s.next+2,((Store.put ⟨s.next+2,s.obj⟩ s.next (IObj.map [])).put (s.next+1) (IObj.cells [.nilslice,.int .i64 inst.length,.map s.next])).obj⟩ (s.next+1) s.next [] inst.length [] .nilslice 0 :=
  {cell:=by simp only [put_obj,if_true]
   grow:=.inl ⟨rfl,rfl⟩
   map:=by
    have e : ¬ s.next=s.next+1:=by omega
    simp only [put_obj,e,if_false,if_true]; rfl
   row:=fun t ht => by cases ht
   ids:=List.nodup_nil
   keys:=List.nodup_nil
   ne:=fun _ _ h => by cases h
   lt:=⟨by show s.next+1 < s.next+2; omega,by show s.next < s.next+2; omega⟩ }
 refine call_c fok69 (add_c inst h2 hi (-1) 1025 _ (s.next+1) s.next [] (by decide) inst.length [] .nilslice hp0) ?_
 rintro v s2 ⟨n2,⟨g1,rfl,L1,rv1,g2,g3⟩ | ⟨g1,rfl⟩⟩
 case inr =>
  refine ⟨n2,?_⟩
  simp only [go_sem,newM,b1,b2,or_self,g1]
  exact frz_err _
 refine ⟨n2,?_⟩
 have hres : newM repos inst=match reposFrom 0 repos (rowsOf inst (-1) 1025,nmAll [] 0 inst) with
  | some (rows,nm) => .inl ⟨rows,inst.length,nm⟩
  | none => .inr 4:=by
  simp only [newM,b1,b2,or_self,if_false,g1,Bool.true_eq_false]
  rfl
 rw [hres]
 simp only [go_sem]
 refine loop_up noT (fun i fr t => fr=[(9,.ptr (s.next+1) 0),(46,reposV repos),(47,.int .i64 repos.length),(48,.int .i64 i)]∧∃ rows L rv,PS t (s.next+1) s.next rows inst.length L rv rows.length ∧
  reposFrom 0 repos (rowsOf inst (-1) 1025,nmAll [] 0 inst)=reposFrom i (repos.drop i) (rows,nmOf L)∧rows.length+sumLen (repos.drop i)=inst.length+sumLen repos) repos.length ⟨rfl,rowsOf inst (-1) 1025,L1,rv1,?_,?_,?_⟩ ?_
 ·have e : (rowsOf inst (-1) 1025).length=0+inst.length:=by rw [rowsOf_len]; omega
  rw [e]; exact g3
 ·rw [g2]; rfl
 ·rw [rowsOf_len]; rfl
 rintro i fr t hle ⟨rfl,rows,L,rv,hp,hrf,hsum⟩
 by_cases hlt : i < repos.length
 ·obtain ⟨a,ha,_,hdr,hget,htk⟩:=at_nth repos i hlt
  have c1 : (i : Int) < repos.length:=by omega
  have c2 : (0 : Int)≤i:=by omega
  have w1:=wrapS (i:=i) (by omega)
  rw [sum_drop repos i a hdr] at hsum
  rw [hdr] at hrf
  simp only [go_sem,c1,c2,hget,repo_len,repo_take,repo_leaf]
  by_cases p1 : a.priority < 0
  ·simp only [go_sem,Repo.cs,p1]
   rw [hrf,reposFrom,if_pos (.inl p1)]
   exact frz_err _
  by_cases p2 : 1024 < a.priority
  ·simp only [go_sem,Repo.cs,p1,p2]
   rw [hrf,reposFrom,if_pos (.inr (.inl p2))]
   exact frz_err _
  simp only [go_sem,Repo.cs,p1,p2]
  have hp1 : PS ⟨t.next+1,((Store.put ⟨t.next+1,t.obj⟩ t.next (IObj.cells [.int .i64 0,.nilslice])).put t.next (IObj.cells [.int .i64 a.priority,pkgsV a.packages])).obj⟩ (s.next+1) s.next rows inst.length L rv rows.length:=hp.mono (Nat.le_succ _) fun j hj => by
   have e : ¬ j=t.next:=by omega
   simp only [put_obj,e,if_false]
  refine call_c fok69 (add_c a.packages (hr a ha).1 (hr a ha).2 i a.priority _ (s.next+1) s.next rows (by omega) inst.length L rv hp1) ?_
  rintro v s3 ⟨n3,⟨k1,rfl,L2,rv2,k2,k3⟩ | ⟨k1,rfl⟩⟩
  ·refine ⟨n3,?_⟩
   simp only [go_sem,w1]
   refine ⟨hlt,rows ++ rowsOf a.packages i a.priority,L2,rv2,?_,?_,?_⟩
   ·rw [List.length_append,rowsOf_len]; exact k3
   ·rw [hrf,reposFrom,if_neg (by simp [p1,p2,k1]),k2]
   ·rw [List.length_append,rowsOf_len]; omega
  ·refine ⟨n3,?_⟩
   simp only [go_sem]
   rw [hrf,reposFrom,if_pos (.inr (.inr k1))]
   exact frz_err _
 have hi' : i=repos.length:=by omega
 subst hi'
 have c1 : ¬ (repos.length : Int) < repos.length:=by omega
 rw [List.drop_length] at hrf
 simp only [go_sem,c1]
 rw [hrf,reposFrom]
 exact .tuple2 (.cons hp.frz (.cons (frz_int _ _) .nil))
end Go.Id.Tryz
