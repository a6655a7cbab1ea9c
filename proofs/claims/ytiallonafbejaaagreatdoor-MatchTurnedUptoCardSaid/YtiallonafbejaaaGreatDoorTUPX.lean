/- Indexes: how their names are kept. Conditions: none. -/
import Derived.Test.YtiallonafbejaaaGreatDoorTUPW
import Derived.Test.YtiallonafbejaaaGreatDoorTUPG
set_option linter.all false
namespace Go.Id.Tryz
open Go Go.Id Go.Proofs Go.Id.Md
structure MS (s : Store) (tag : Nat→Nat) (c mid : Nat) (L : NmL) (B : Nat) : Prop where
 map : s.obj mid=some (.map (mEs L))
 row : ∀ t∈L,s.obj t.2.2=some (.row (t.2.1.map Md.intC).flatten)∧t.2.2 < s.next∧t.2.1.length≤B
 tagr : ∀ t∈L,tag t.2.2=c
 ids : (L.map (·.2.2)).Nodup
 keys : (L.map (·.1)).Nodup
 lt : mid < s.next
 tagm : tag mid=c
theorem MS.keep {s s' : Store} {tag tag' : Nat→Nat} {c mid : Nat} {L : NmL} {B B' : Nat} (h : MS s tag c mid L B) (hB : B≤B') (hn : s.next≤s'.next) (ho : ∀ i,i < s.next→tag i=c→s'.obj i=s.obj i) (ht : ∀ i,i < s.next→tag' i=tag i) : MS s' tag' c mid L B' where
 map:=by rw [ho _ h.lt h.tagm]; exact h.map
 row:=fun t m => ⟨by rw [ho _ (h.row t m).2.1 (h.tagr t m)]; exact (h.row t m).1,by have:=(h.row t m).2.1; omega,by have:=(h.row t m).2.2; omega⟩
 tagr:=fun t m => by rw [ht _ (h.row t m).2.1]; exact h.tagr t m
 ids:=h.ids
 keys:=h.keys
 lt:=by have:=h.lt; omega
 tagm:=by rw [ht _ h.lt]; exact h.tagm
def tagU (tag : Nat→Nat) (c nid : Nat) : Nat→Nat:=fun i => if i=nid then c else tag i
theorem tagU_lt {tag : Nat→Nat} {c nid n : Nat} (h : n≤nid) : ∀ i,i < n→tagU tag c nid i=tag i:=fun i hi => by
 unfold tagU; rw [if_neg (by omega)]
theorem MS.cur {s : Store} {tag : Nat→Nat} {c mid : Nat} {L : NmL} {B : Nat} (h : MS s tag c mid L B) (k : Str) (m : Nat) (hm : s.next≤m) : Grow ⟨m,s.obj⟩ (curV L k) 1 ((curL L k).map Md.intC)∧(curL L k).length≤B:=by
 rcases cur_spec L k with ⟨h1,h2⟩ | ⟨t,ht,_,h1,h2⟩
 ·rw [h1,h2]; exact ⟨.inl ⟨rfl,rfl⟩,Nat.zero_le _⟩
 ·rw [h1,h2]; exact ⟨.inr ⟨t.2.2,by rw [List.length_map],(h.row t ht).1,by have:=(h.row t ht).2.1; show t.2.2 < m; omega⟩,(h.row t ht).2.2⟩
theorem MS.upd {s : Store} {tag : Nat→Nat} {c mid : Nat} {L : NmL} {B : Nat} (h : MS s tag c mid L B) (k : Str) (n : Int) (m nid : Nat) (hm : s.next≤m) (hnew : s.next≤nid) (hb : B < 2 ^ 30) :
  ∃ s1,appI ⟨m,s.obj⟩ nid 1 (curV L k) (.tslice [[.int .i64 n]])=some (.slice nid 0 ((curL L k).length+1) 1,s1)∧s1.next=m∧s1.obj mid=some (.map (mEs L))∧(∀ i o,i < s.next→s.obj i=some o→(∀ cs,o≠.row cs)→s1.obj i=some o) ∧
   ∀ nx,nid < nx→MS ⟨nx,(s1.put mid (.map (mEs (updM L k n nid)))).obj⟩ (tagU tag c nid) c mid (updM L k n nid) (B+1)∧∀ i,i < s.next→tag i≠c→(s1.put mid (.map (mEs (updM L k n nid)))).obj i=s.obj i:=by
 obtain ⟨hg,hlen⟩:=h.cur k m hm
 have hap:=app_grow (nid:=nid) (e:=[.int .i64 n]) hg (int_all _) ⟨rfl,rfl⟩ (by rw [List.length_map]; omega)
 rw [List.length_map] at hap
 have hlt:=h.lt
 have hmid : ¬ mid=nid:=by omega
 have kother : ∀ i,(∀ t∈L,t.1=k→t.2.2≠i)→(killv (curV L k) ⟨m,s.obj⟩).obj i=s.obj i:=by
  intro i hne
  rcases cur_spec L k with ⟨h1,_⟩ | ⟨t,ht,hk,h1,_⟩
  ·rw [h1]; rfl
  ·rw [h1]
   show (if i=t.2.2 then none else s.obj i)=_
   rw [if_neg (fun e => hne t ht hk e.symm)]
 have hrow_ne_mid : ∀ i cs,s.obj i=some (.row cs)→¬ i=mid:=fun i cs hi e => by subst e; rw [h.map] at hi; cases hi
 refine ⟨_,hap,by rw [put_next,killv_next],?_,?_,fun nx hnx => ⟨?_,?_⟩⟩
 ·rw [put_obj,if_neg hmid]; exact killv_obj hg mid _ h.map (fun _ e => by cases e)
 ·intro i o hi ho hr
  rw [put_obj,if_neg (by omega)]; exact killv_obj hg i _ ho hr
 ·exact {
   map:=by
    show (if mid=mid then _ else _)=_
    rw [if_pos rfl]
   row:=by
    intro t ht
    rcases upd_mem h.keys t ht with ⟨h1,h2⟩ | rfl
    ·obtain ⟨r1,r2,r3⟩:=h.row t h1
     refine ⟨?_,by show t.2.2 < nx; omega,by omega⟩
     show (if t.2.2=mid then _ else if t.2.2=nid then _ else (killv (curV L k) ⟨m,s.obj⟩).obj t.2.2)=_
     rw [if_neg (hrow_ne_mid _ _ r1),if_neg (by omega),kother _ fun u hu hk e => h2 (by rw [← ids_inj h.keys h.ids u hu t h1 e]; exact hk)]
     exact r1
    ·refine ⟨?_,hnx,?_⟩
     ·show (if nid=mid then _ else if nid=nid then _ else _)=_
      rw [if_neg (fun e => hmid e.symm),if_pos rfl,List.map_append]
      rfl
     ·show (curL L k ++ [n]).length≤B+1
      rw [List.length_append]; simp; exact hlen
   tagr:=by
    intro t ht
    rcases upd_mem h.keys t ht with ⟨h1,h2⟩ | rfl
    ·rw [tagU_lt hnew _ (h.row t h1).2.1]; exact h.tagr t h1
    ·unfold tagU; rw [if_pos rfl]
   ids:=(upd_ids L h.ids (fun hm => by
    obtain ⟨t,ht,e⟩:=List.mem_map.1 hm
    have:=(h.row t ht).2.1
    have e' : t.2.2=nid:=e
    omega)).1
   keys:=(upd_keys L h.keys).1
   lt:=by show mid < nx; omega
   tagm:=by rw [tagU_lt hnew _ h.lt]; exact h.tagm }
 ·intro i hi hc
  show (if i=mid then _ else if i=nid then _ else (killv (curV L k) ⟨m,s.obj⟩).obj i)=_
  rw [if_neg (fun e => hc (by rw [e]; exact h.tagm)),if_neg (by omega),kother _ fun t ht _ e => hc (by rw [← e]; exact h.tagr t ht)]
theorem MS.frz {s : Store} {tag : Nat→Nat} {c mid : Nat} {L : NmL} {B : Nat} (h : MS s tag c mid L B) {nm : Nms} (hp : (nmOf L).Perm nm) : FrzN s 0 (.map mid) (.tmap (nmV nm)):=by
 have hat : ∀ i,i < (mEs L).length→∃ t∈L,(mEs L).getD i (.undef,.undef)=(.str t.1,.slice t.2.2 0 t.2.1.length 1)∧(nmV (nmOf L)).getD i (.undef,.undef)=(.str t.1,.tslice (t.2.1.map Md.intC)):=by
  intro i hi
  have hi' : i < L.length:=by simpa [mEs] using hi
  exact ⟨L[i],List.getElem_mem hi',by simp [mEs,List.getD_eq_getElem?_getD,hi'],by simp [nmV,nmOf,List.getD_eq_getElem?_getD,hi']⟩
 have hkn : KN nm:=KN.perm (nm:=nmOf L) (by show ((nmOf L).map (·.1)).Nodup; unfold nmOf; rw [List.map_map]; exact h.keys) hp
 refine .map mid (mEs L) (nmV (nmOf L)) (nmV nm) (Nat.not_lt_zero _) h.map (by simp [nmV,nmOf,mEs]) (hp.map _) ⟨?_,.str,fun e he => ?_⟩ (fun i hi => ?_) (fun i hi => ?_)
 ·have : (nmV nm).map (·.1)=(nm.map (·.1)).map IV.str:=by simp [nmV]
  rw [this]
  exact List.Pairwise.map _ (fun a b hab e => hab (by cases e; rfl)) hkn
 ·simp only [nmV,List.mem_map] at he
  obtain ⟨t,_,rfl⟩:=he
  trivial
 ·obtain ⟨t,ht,e1,e2⟩:=hat i hi
  rw [e1,e2]; exact frz_str _
 ·obtain ⟨t,ht,e1,e2⟩:=hat i hi
  rw [e1,e2]
  obtain ⟨r1,r2,_⟩:=h.row t ht
  have hg : Grow s (.slice t.2.2 0 t.2.1.length 1) 1 (t.2.1.map Md.intC):=.inr ⟨t.2.2,by rw [List.length_map],r1,r2⟩
  refine hg.frz (fun x hx => (int_all _ x hx).1) (fun _ _ => Nat.not_lt_zero _) fun e he c hc => ?_
  obtain ⟨n,_,rfl⟩:=List.mem_map.1 he
  cases hc with
  | head => exact .int _ _
  | tail _ h => cases h
structure IS (s : Store) (pp m1 m2 m3 : Nat) (all : List Package) (rv : IV) (L1 L2 L3 : NmL) (tag : Nat→Nat) (B : Nat) : Prop where
 cell : s.obj pp=some (.cells [rv,.map m1,.map m2,.map m3])
 ltp : pp < s.next
 grow : Grow s rv 15 (all.map Package.cs)
 tagr : ∀ id n,rv=.slice id 0 n 15→tag id=0
 m1 : MS s tag 1 m1 L1 B
 m2 : MS s tag 2 m2 L2 B
 m3 : MS s tag 3 m3 L3 B
 tagp : tag pp=4
theorem IS.mono {s s' : Store} {pp m1 m2 m3 : Nat} {all : List Package} {rv : IV} {L1 L2 L3 : NmL} {tag : Nat→Nat} {B B' : Nat} (h : IS s pp m1 m2 m3 all rv L1 L2 L3 tag B) (hB : B≤B') (hn : s.next≤s'.next) (ho : ∀ i,i < s.next→s'.obj i=s.obj i) : IS s' pp m1 m2 m3 all rv L1 L2 L3 tag B' where
 cell:=by rw [ho _ h.ltp]; exact h.cell
 ltp:=by have:=h.ltp; omega
 grow:=h.grow.mono hn fun id _ hid => ho id hid
 tagr:=h.tagr
 m1:=h.m1.keep hB hn (fun i hi _ => ho i hi) fun _ _ => rfl
 m2:=h.m2.keep hB hn (fun i hi _ => ho i hi) fun _ _ => rfl
 m3:=h.m3.keep hB hn (fun i hi _ => ho i hi) fun _ _ => rfl
 tagp:=h.tagp
theorem grow_row {s s' : Store} {rv : IV} {es : List (List IV)} {tag : Nat→Nat} (h : Grow s rv 15 es) (ht : ∀ id n,rv=.slice id 0 n 15→tag id=0) (hn : s.next≤s'.next) (ho : ∀ i,i < s.next→tag i=0→s'.obj i=s.obj i) : Grow s' rv 15 es :=
 h.mono hn fun id hv hid => ho id hid (ht id _ hv)
theorem grow_tag {s : Store} {rv : IV} {es : List (List IV)} {tag : Nat→Nat} {c nid : Nat} (h : Grow s rv 15 es) (ht : ∀ id n,rv=.slice id 0 n 15→tag id=0) (hn : s.next≤nid) : ∀ id n,rv=.slice id 0 n 15→tagU tag c nid id=0:=fun id n hv => by
 rcases h with ⟨h1,_⟩ | ⟨id',h1,_,hlt⟩
 ·rw [h1] at hv; cases hv
 ·have e : id'=id:=by rw [h1] at hv; cases hv; rfl
  subst e
  rw [tagU_lt hn _ hlt]; exact ht _ _ hv
theorem IS.of1 {s s' : Store} {pp m1 m2 m3 nid : Nat} {all : List Package} {rv : IV} {L1 L2 L3 L' : NmL} {tag : Nat→Nat} {B : Nat} (h : IS s pp m1 m2 m3 all rv L1 L2 L3 tag B) (hn : s.next≤s'.next) (hnid : s.next≤nid) (hm : MS s' (tagU tag 1 nid) 1 m1 L' (B+1)) (ho : ∀ i,i < s.next→tag i≠1→s'.obj i=s.obj i) : IS s' pp m1 m2 m3 all rv L' L2 L3 (tagU tag 1 nid) (B+1) where
 cell:=by rw [ho _ h.ltp (by rw [h.tagp]; decide)]; exact h.cell
 ltp:=by have:=h.ltp; omega
 grow:=grow_row h.grow h.tagr hn fun i hi e => ho i hi (by rw [e]; decide)
 tagr:=grow_tag h.grow h.tagr hnid
 m1:=hm
 m2:=h.m2.keep (Nat.le_succ _) hn (fun i hi e => ho i hi (by rw [e]; decide)) (tagU_lt hnid)
 m3:=h.m3.keep (Nat.le_succ _) hn (fun i hi e => ho i hi (by rw [e]; decide)) (tagU_lt hnid)
 tagp:=by rw [tagU_lt hnid _ h.ltp]; exact h.tagp
theorem IS.of2 {s s' : Store} {pp m1 m2 m3 nid : Nat} {all : List Package} {rv : IV} {L1 L2 L3 L' : NmL} {tag : Nat→Nat} {B : Nat} (h : IS s pp m1 m2 m3 all rv L1 L2 L3 tag B) (hn : s.next≤s'.next) (hnid : s.next≤nid) (hm : MS s' (tagU tag 2 nid) 2 m2 L' (B+1)) (ho : ∀ i,i < s.next→tag i≠2→s'.obj i=s.obj i) : IS s' pp m1 m2 m3 all rv L1 L' L3 (tagU tag 2 nid) (B+1) where
 cell:=by rw [ho _ h.ltp (by rw [h.tagp]; decide)]; exact h.cell
 ltp:=by have:=h.ltp; omega
 grow:=grow_row h.grow h.tagr hn fun i hi e => ho i hi (by rw [e]; decide)
 tagr:=grow_tag h.grow h.tagr hnid
 m1:=h.m1.keep (Nat.le_succ _) hn (fun i hi e => ho i hi (by rw [e]; decide)) (tagU_lt hnid)
 m2:=hm
 m3:=h.m3.keep (Nat.le_succ _) hn (fun i hi e => ho i hi (by rw [e]; decide)) (tagU_lt hnid)
 tagp:=by rw [tagU_lt hnid _ h.ltp]; exact h.tagp
theorem IS.of3 {s s' : Store} {pp m1 m2 m3 nid : Nat} {all : List Package} {rv : IV} {L1 L2 L3 L' : NmL} {tag : Nat→Nat} {B : Nat} (h : IS s pp m1 m2 m3 all rv L1 L2 L3 tag B) (hn : s.next≤s'.next) (hnid : s.next≤nid) (hm : MS s' (tagU tag 3 nid) 3 m3 L' (B+1)) (ho : ∀ i,i < s.next→tag i≠3→s'.obj i=s.obj i) : IS s' pp m1 m2 m3 all rv L1 L2 L' (tagU tag 3 nid) (B+1) where
 cell:=by rw [ho _ h.ltp (by rw [h.tagp]; decide)]; exact h.cell
 ltp:=by have:=h.ltp; omega
 grow:=grow_row h.grow h.tagr hn fun i hi e => ho i hi (by rw [e]; decide)
 tagr:=grow_tag h.grow h.tagr hnid
 m1:=h.m1.keep (Nat.le_succ _) hn (fun i hi e => ho i hi (by rw [e]; decide)) (tagU_lt hnid)
 m2:=h.m2.keep (Nat.le_succ _) hn (fun i hi e => ho i hi (by rw [e]; decide)) (tagU_lt hnid)
 m3:=hm
 tagp:=by rw [tagU_lt hnid _ h.ltp]; exact h.tagp
theorem pkg_all (l : List Package) : ∀ e∈l.map Package.cs,e.length=15∧e.all IV.leaf=true:=fun e he => by
 obtain ⟨x,_,rfl⟩:=List.mem_map.1 he
 exact ⟨pkg_len x,pkg_leaf x⟩
theorem IS.push {s : Store} {pp m1 m2 m3 : Nat} {all : List Package} {rv : IV} {L1 L2 L3 : NmL} {tag : Nat→Nat} {B : Nat} (h : IS s pp m1 m2 m3 all rv L1 L2 L3 tag B) (x : Package) (m nid : Nat) (hm : s.next≤m) (hnew : s.next≤nid) (hb : all.length < 2 ^ 30) :
  ∃ s1,appI ⟨m,s.obj⟩ nid 15 rv (.tslice [x.cs])=some (.slice nid 0 (all.length+1) 15,s1)∧s1.next=m∧s1.obj pp=s.obj pp∧(∀ i o,i < s.next→s.obj i=some o→(∀ cs,o≠.row cs)→s1.obj i=some o) ∧
   ∀ nx,nid < nx→IS ⟨nx,(s1.put pp (.cells [.slice nid 0 (all.length+1) 15,.map m1,.map m2,.map m3])).obj⟩ pp m1 m2 m3 (all ++ [x]) (.slice nid 0 (all.length+1) 15) L1 L2 L3 (tagU tag 0 nid) B:=by
 have hg : Grow ⟨m,s.obj⟩ rv 15 (all.map Package.cs):=Grow.mono (σ:=s) h.grow hm fun _ _ _ => rfl
 have hap:=app_grow (nid:=nid) (e:=x.cs) hg (pkg_all all) ⟨pkg_len x,pkg_leaf x⟩ (by rw [List.length_map]; omega)
 rw [List.length_map] at hap
 have hlt:=h.ltp
 have hpp : ¬ pp=nid:=by omega
 have kp:=killv_obj hg pp _ h.cell (fun _ e => by cases e)
 have kk : ∀ i,i < s.next→tag i≠0→tag i≠4→((killv rv ⟨m,s.obj⟩).put nid (.row (all.map Package.cs ++ [x.cs]).flatten) |>.put pp (.cells [.slice nid 0 (all.length+1) 15,.map m1,.map m2,.map m3])).obj i=s.obj i:=by
  intro i hi h0 h4
  show (if i=pp then _ else if i=nid then _ else (killv rv ⟨m,s.obj⟩).obj i)=_
  rw [if_neg (fun e => h4 (by rw [e]; exact h.tagp)),if_neg (by omega)]
  rcases h.grow with ⟨hv,_⟩ | ⟨id,hv,ho,hl⟩
  ·rw [hv]; rfl
  ·have ht:=h.tagr id _ hv
   rw [hv]
   show (if i=id then none else s.obj i)=_
   rw [if_neg (fun e => h0 (by rw [e]; exact ht))]
 refine ⟨_,hap,by rw [put_next,killv_next],by rw [put_obj,if_neg hpp,kp,h.cell],?_,fun nx hnx => ?_⟩
 ·intro i o hi ho hr
  rw [put_obj,if_neg (by omega)]; exact killv_obj hg i _ ho hr
 ·exact {
   cell:=by
    show (if pp=pp then _ else _)=_
    rw [if_pos rfl]
   ltp:=by show pp < nx; omega
   grow:=by
    refine .inr ⟨nid,by rw [List.map_append,List.length_append,List.length_map]; rfl,?_,hnx⟩
    show (if nid=pp then _ else if nid=nid then _ else _)=_
    rw [if_neg (fun e => hpp e.symm),if_pos rfl,List.map_append]; rfl
   tagr:=fun id n hv => by cases hv; unfold tagU; rw [if_pos rfl]
   m1:=h.m1.keep (Nat.le_refl _) (by show s.next≤nx; omega) (fun i hi e => kk i hi (by rw [e]; decide) (by rw [e]; decide)) (tagU_lt hnew)
   m2:=h.m2.keep (Nat.le_refl _) (by show s.next≤nx; omega) (fun i hi e => kk i hi (by rw [e]; decide) (by rw [e]; decide)) (tagU_lt hnew)
   m3:=h.m3.keep (Nat.le_refl _) (by show s.next≤nx; omega) (fun i hi e => kk i hi (by rw [e]; decide) (by rw [e]; decide)) (tagU_lt hnew)
   tagp:=by rw [tagU_lt hnew _ h.ltp]; exact h.tagp }
theorem IS.frz {s : Store} {pp m1 m2 m3 : Nat} {all : List Package} {rv : IV} {L1 L2 L3 : NmL} {tag : Nat→Nat} {B : Nat} (h : IS s pp m1 m2 m3 all rv L1 L2 L3 tag B) {x : Index} (h0 : x.all=all) (h1 : (nmOf L1).Perm x.prov) (h2 : (nmOf L2).Perm x.names) (h3 : (nmOf L3).Perm x.over) : FrzN s 0 (.ptr pp 0) x.v:=by
 subst h0
 refine .ptr pp 0 _ _ (Nat.not_lt_zero _) (.inl h.cell) (Nat.le_refl _) fun j hj => ?_
 have hj3 : j=0 ∨ j=1 ∨ j=2 ∨ j=3:=by simp only [List.length_cons,List.length_nil] at hj; omega
 rcases hj3 with rfl | rfl | rfl | rfl
 ·refine h.grow.frz (fun x hx => (pkg_all _ x hx).1) (fun _ _ => Nat.not_lt_zero _) fun e he c hc => ?_
  obtain ⟨r,_,rfl⟩:=List.mem_map.1 he
  exact bnd_pkg r c hc
 ·exact h.m1.frz h1
 ·exact h.m2.frz h2
 ·exact h.m3.frz h3
theorem MS.keep2 {s s' : Store} {tag : Nat→Nat} {c mid : Nat} {L : NmL} {B B' : Nat} (h : MS s tag c mid L B) (hB : B≤B') (hn : s.next≤s'.next) (ho : ∀ i o,i < s.next→s.obj i=some o→(∀ l c,o≠.miter l c)→s'.obj i=some o) : MS s' tag c mid L B' where
 map:=ho _ _ h.lt h.map (fun _ _ e => by cases e)
 row:=fun t m => ⟨ho _ _ (h.row t m).2.1 (h.row t m).1 (fun _ _ e => by cases e),by have:=(h.row t m).2.1; omega,by have:=(h.row t m).2.2; omega⟩
 tagr:=h.tagr
 ids:=h.ids
 keys:=h.keys
 lt:=by have:=h.lt; omega
 tagm:=h.tagm
theorem IS.keep2 {s s' : Store} {pp m1 m2 m3 : Nat} {all : List Package} {rv : IV} {L1 L2 L3 : NmL} {tag : Nat→Nat} {B B' : Nat} (h : IS s pp m1 m2 m3 all rv L1 L2 L3 tag B) (hB : B≤B') (hn : s.next≤s'.next) (ho : ∀ i o,i < s.next→s.obj i=some o→(∀ l c,o≠.miter l c)→s'.obj i=some o) : IS s' pp m1 m2 m3 all rv L1 L2 L3 tag B' where
 cell:=ho _ _ h.ltp h.cell (fun _ _ e => by cases e)
 ltp:=by have:=h.ltp; omega
 grow:=by
  rcases h.grow with h0 | ⟨id,hv,hr,hid⟩
  ·exact .inl h0
  ·exact .inr ⟨id,hv,ho _ _ hid hr (fun _ _ e => by cases e),by omega⟩
 tagr:=h.tagr
 m1:=h.m1.keep2 hB hn ho
 m2:=h.m2.keep2 hB hn ho
 m3:=h.m3.keep2 hB hn ho
 tagp:=h.tagp
theorem map_erase {α β : Type} (f : α→β) : ∀ (l : List α) (k : Nat),(l.map f).eraseIdx k=(l.eraseIdx k).map f
 | [],_ => rfl
 | _ :: _,0 => rfl
 | a :: l,k+1 => by simp [map_erase f l k]
theorem perm_erase {α : Type} : ∀ (l : List α) (k : Nat) (h : k < l.length),l.Perm (l[k] :: l.eraseIdx k)
 | [],k,h => by simp at h
 | a :: l,0,_ => .refl _
 | a :: l,k+1,h => ((perm_erase l k (by simpa using h)).cons a).trans (.swap _ _ _)
theorem mn_at {s : Store} {id : Nat} {l : List (IV × IV)} {c : Option (IV × IV)} (h : s.obj id=some (.miter l c)) : mnextI s (.ptr id 0)=some (id,l):=by simp only [mnextI,h]
theorem me_at {s : Store} {id : Nat} {l : List (IV × IV)} {c : IV × IV} (h : s.obj id=some (.miter l (some c))) : mentI s (.ptr id 0)=some (.tuple [c.1,c.2]):=by simp only [mentI,h]
end Go.Id.Tryz
