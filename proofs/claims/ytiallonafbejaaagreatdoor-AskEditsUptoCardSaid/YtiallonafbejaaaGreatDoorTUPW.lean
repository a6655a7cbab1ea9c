/- What a package may offer; numbers that a list has. Conditions: sizes that fit. -/
import Derived.Test.YtiallonafbejaaaGreatDoorTUPF
import Derived.Test.YtiallonafbejaaaGreatDoorMm
import Derived.Test.YtiallonafbejaaaGreatDoorTUPG
set_option linter.all false
namespace Go.Id.Tryz
open Go Go.Id Go.Proofs Go.Id.Md
def idxOf (n : Int) : List Int→Nat→Int
 | [],_ => -1
 | a :: l,i => if n=a then Int.ofNat i else idxOf n l (i+1)
theorem idxOf_spec (n : Int) : ∀ (l : List Int) (i : Nat),(0≤idxOf n l i ↔ n∈l):=by
 intro l
 induction l with
 | nil => intro i; simp [idxOf]
 | cons a l ih =>
  intro i
  simp only [idxOf]
  split
  ·rename_i e; subst e; simp
  ·rename_i e; rw [ih]; simp [e]
theorem indexInt_pc (l : List Int) (n : Int) (hl : l.length < 2 ^ 40) : PC Tryz.prog EE 216 [.tslice (l.map Md.intC),.int .i64 n] (.int .i64 (idxOf n l 0)):=by
 refine PC_f fok216 (Nat.le_of_ble_eq_true rfl) fun σ => ?_
 simp only [ic216,go_sem]
 refine loop_up noT (fun i fr s => fr=[(0,.tslice (l.map Md.intC)),(1,.int .i64 n),(7,.int .i64 l.length),(8,.int .i64 i)]∧s=σ∧idxOf n l 0=idxOf n (l.drop i) i) l.length ⟨rfl,rfl,rfl⟩ ?_
 rintro i fr s hle ⟨rfl,rfl,hI⟩
 by_cases hlt : i < l.length
 ·obtain ⟨x,hx,_,hdr,hget,htk⟩:=at_nth l i hlt
  have c1 : (i : Int) < l.length:=by omega
  have c2 : (0 : Int)≤i:=by omega
  have w1:=wrapS (i:=i) (by omega)
  rw [hdr,idxOf] at hI
  by_cases e : n=x
  ·rw [if_pos e] at hI
   subst e
   have hI : idxOf n l 0=(i : Int):=hI
   simp only [go_sem,c1,c2,hget,Md.intC,hI,and_self]
  ·rw [if_neg e] at hI
   simp only [go_sem,c1,c2,hget,Md.intC,e,w1]
   exact ⟨hlt,hI⟩
 ·have hi' : i=l.length:=by omega
  subst hi'
  have c1 : ¬ (l.length : Int) < l.length:=by omega
  rw [List.drop_length,idxOf] at hI
  simp only [go_sem,c1,hI,and_self]
theorem hasInt_pc (l : List Int) (n : Int) (hl : l.length < 2 ^ 40) : PC Tryz.prog EE 147 [.tslice (l.map Md.intC),.int .i64 n] (.bool (decide (n∈l))):=by
 refine PC_f fok147 (Nat.le_of_ble_eq_true rfl) fun σ => ?_
 simp only [ic147,go_sem]
 refine call_pc fok216 (indexInt_pc l n hl) ?_
 have e : decide (0≤idxOf n l 0)=decide (n∈l):=by
  by_cases h : n∈l
  ·simp [h,(idxOf_spec n l 0).2 h]
  ·rw [decide_eq_false h,decide_eq_false (fun x => h ((idxOf_spec n l 0).1 x))]
 simp only [go_sem,e,and_self]
/-! ### A set of names -/
def sE (k : Str) : IV × IV:=(.str k,.agg [])
theorem updL_set (l : List Str) (k : Str) : updL 2 (.str k) (.agg []) (l.map sE)=some ((offAdd l k).map sE):=by
 have go : ∀ l : List Str,updL 2 (.str k) (.agg []) (l.map sE)=some ((if k∈l then l else l ++ [k]).map sE):=by
  intro l
  induction l with
  | nil => rfl
  | cons a l ih =>
   simp only [List.map_cons,sE,updL,e_keq2] at ih ⊢
   by_cases h : k=a
   ·subst h; simp [sE]
   ·simp only [h,decide_false,List.mem_cons,false_or] at ih ⊢
    rw [ih]
    split <;> simp [sE]
 exact go l
theorem mupd_set {σ : Store} {mid : Nat} {l : List Str} (h : σ.obj mid=some (.map (l.map sE))) (k : Str) : mapUpdI σ 2 (.map mid) (.str k) (.agg [])=some (σ.put mid (.map ((offAdd l k).map sE))):=by
 simp only [mapUpdI,h,updL_set,Option.map]
theorem offAdd_nd {l : List Str} (h : l.Nodup) (k : Str) : (offAdd l k).Nodup:=by
 unfold offAdd
 split
 ·exact h
 ·rename_i hk
  refine List.nodup_append.2 ⟨h,by simp,fun a ha b hb e => ?_⟩
  cases List.mem_singleton.1 hb
  exact hk (e ▸ ha)
theorem offFold_nd : ∀ (ks : List Str) {l : List Str},l.Nodup→(ks.foldl offAdd l).Nodup
 | [],_,h => h
 | k :: ks,_,h => offFold_nd ks (offAdd_nd h k)
theorem offK_nd (p : Package) : (offK p).Nodup:=offFold_nd _ (offFold_nd _ (by simp))
theorem offered_pc (p : Package) (hp : p.Fit) : PC Tryz.prog EE 146 [.agg p.cs] (.tmap ((offK p).map sE)):=by
 have f1:=hp.prov.1
 have f2:=hp.files.1
 refine PC_e hE fok146 (Nat.le_of_ble_eq_true rfl) (fun a ha => by cases List.mem_singleton.1 ha; exact .agg _ (bnd_pkg p)) ?_
 simp only [ic146,go_sem,pkg_leaf,Package.cs,e_lO1]
 rw [mupd_set (l:=[]) (by simp only [put_obj,if_true]; rfl)]
 simp only [go_sem]
 refine loop_up noT (fun i fr s => fr=[(1,.tptr p.cs),(3,.map 0),(14,deps p.provides),(15,.int .i64 p.provides.length),(16,.int .i64 i)]∧1≤s.next∧s.obj 0=some (.map ((((p.provides.take i).map (·.name)).foldl offAdd [p.name]).map sE))) p.provides.length ⟨rfl,by simp,by simp only [put_obj,if_true]; rfl⟩ ?_
 rintro i fr s hle ⟨rfl,hn,ho⟩
 by_cases hlt : i < p.provides.length
 ·obtain ⟨x,hx,_,hdr,hget,htk⟩:=at_nth p.provides i hlt
  have c1 : (i : Int) < p.provides.length:=by omega
  have c2 : (0 : Int)≤i:=by omega
  have c3 : ¬ 0=s.next:=by omega
  have w1:=wrapS (i:=i) (by omega)
  simp only [go_sem,c1,c2,hget,Dep.cs]
  rw [mupd_set (l:=((p.provides.take i).map (·.name)).foldl offAdd [p.name]) (by simp only [put_obj,c3,if_false]; exact ho)]
  simp only [go_sem,w1]
  refine ⟨hlt,?_⟩
  rw [htk,List.map_append,List.foldl_append]
  first | rfl | (simp only [put_obj,if_true]; rfl)
 have hi' : i=p.provides.length:=by omega
 subst hi'
 have c1 : ¬ (p.provides.length : Int) < p.provides.length:=by omega
 rw [List.take_length] at ho
 simp only [go_sem,c1,Package.cs]
 refine loop_up noT (fun i fr s => fr=[(3,.map 0),(26,strs p.files),(27,.int .i64 p.files.length),(28,.int .i64 i)]∧s.obj 0=some (.map (((p.files.take i).foldl offAdd ((p.provides.map (·.name)).foldl offAdd [p.name])).map sE))) p.files.length ⟨rfl,ho⟩ ?_
 rintro i fr s hle ⟨rfl,ho⟩
 by_cases hlt : i < p.files.length
 ·obtain ⟨x,hx,_,hdr,hget,htk⟩:=at_nth p.files i hlt
  have c1 : (i : Int) < p.files.length:=by omega
  have c2 : (0 : Int)≤i:=by omega
  have w1:=wrapS (i:=i) (by omega)
  simp only [go_sem,c1,c2,hget,strC]
  rw [mupd_set ho]
  simp only [go_sem,w1]
  refine ⟨hlt,?_⟩
  rw [htk,List.foldl_append]
  first | rfl | (simp only [put_obj,if_true]; rfl)
 have hi' : i=p.files.length:=by omega
 subst hi'
 have c1 : ¬ (p.files.length : Int) < p.files.length:=by omega
 rw [List.take_length] at ho
 simp only [go_sem,c1]
 refine .map 0 _ _ _ (Nat.not_lt_zero _) ho rfl (List.Perm.refl _) ⟨?_,.str,fun e he => ?_⟩ (fun i hi => ?_) (fun i hi => ?_)
 ·have : ((offK p).map sE).map (·.1)=(offK p).map IV.str:=by simp [sE]
  rw [this]
  exact List.Pairwise.map _ (fun a b hab e => hab (by cases e; rfl)) (offK_nd p)
 ·obtain ⟨k,_,rfl⟩:=List.mem_map.1 he
  trivial
 ·exact .keep _ (by
   obtain ⟨k,_,e⟩:=List.mem_map.1 (getD_mem (.undef,.undef) hi)
   rw [← e]; exact .str _)
 ·exact .keep _ (by
   obtain ⟨k,_,e⟩:=List.mem_map.1 (getD_mem (.undef,.undef) hi)
   rw [← e]; exact .agg _ fun c hc => by cases hc)
end Go.Id.Tryz
/- Indexes: how their names are kept. Conditions: none. -/
namespace Go.Id.Tryz
open Go Go.Id Go.Proofs Go.Id.Md
structure MS (s : Store) (tag : Nat→Nat) (c mid : Nat) (L : NmL) (B : Nat) : Prop where
 map : s.obj mid=some (.map (mEs L))
 row : ∀ t∈L,s.obj t.2.2=some (.row (t.2.1.map Md.intC).flatten)∧t.2.2 < s.next∧t.2.1.length≤B
 tagr : ∀ t∈L,tag t.2.2=c
 ids : (L.map (·.2.2)).Nodup
 keys : (L.map (·.1)).Nodup
 lt : mid < s.next
 tagm : tag mid=c
theorem MS.keep {s s' : Store} {tag tag' : Nat→Nat} {c mid : Nat} {L : NmL} {B B' : Nat} (h : MS s tag c mid L B) (hB : B≤B') (hn : s.next≤s'.next) (ho : ∀ i,i < s.next→tag i=c→s'.obj i=s.obj i) (ht : ∀ i,i < s.next→tag' i=tag i) : MS s' tag' c mid L B' where
 map:=by rw [ho _ h.lt h.tagm]; exact h.map
 row:=fun t m => ⟨by rw [ho _ (h.row t m).2.1 (h.tagr t m)]; exact (h.row t m).1,by have:=(h.row t m).2.1; omega,by have:=(h.row t m).2.2; omega⟩
 tagr:=fun t m => by rw [ht _ (h.row t m).2.1]; exact h.tagr t m
 ids:=h.ids
 keys:=h.keys
 lt:=by have:=h.lt; omega
 tagm:=by rw [ht _ h.lt]; exact h.tagm
def tagU (tag : Nat→Nat) (c nid : Nat) : Nat→Nat:=fun i => if i=nid then c else tag i
theorem tagU_lt {tag : Nat→Nat} {c nid n : Nat} (h : n≤nid) : ∀ i,i < n→tagU tag c nid i=tag i:=fun i hi => by
 unfold tagU; rw [if_neg (by omega)]
theorem MS.cur {s : Store} {tag : Nat→Nat} {c mid : Nat} {L : NmL} {B : Nat} (h : MS s tag c mid L B) (k : Str) (m : Nat) (hm : s.next≤m) : Grow ⟨m,s.obj⟩ (curV L k) 1 ((curL L k).map Md.intC)∧(curL L k).length≤B:=by
 rcases cur_spec L k with ⟨h1,h2⟩ | ⟨t,ht,_,h1,h2⟩
 ·rw [h1,h2]; exact ⟨.inl ⟨rfl,rfl⟩,Nat.zero_le _⟩
 ·rw [h1,h2]; exact ⟨.inr ⟨t.2.2,by rw [List.length_map],(h.row t ht).1,by have:=(h.row t ht).2.1; show t.2.2 < m; omega⟩,(h.row t ht).2.2⟩
theorem MS.upd {s : Store} {tag : Nat→Nat} {c mid : Nat} {L : NmL} {B : Nat} (h : MS s tag c mid L B) (k : Str) (n : Int) (m nid : Nat) (hm : s.next≤m) (hnew : s.next≤nid) (hb : B < 2 ^ 30) :
  ∃ s1,appI ⟨m,s.obj⟩ nid 1 (curV L k) (.tslice [[.int .i64 n]])=some (.slice nid 0 ((curL L k).length+1) 1,s1)∧s1.next=m∧s1.obj mid=some (.map (mEs L))∧(∀ i o,i < s.next→s.obj i=some o→(∀ cs,o≠.row cs)→s1.obj i=some o) ∧
   ∀ nx,nid < nx→MS ⟨nx,(s1.put mid (.map (mEs (updM L k n nid)))).obj⟩ (tagU tag c nid) c mid (updM L k n nid) (B+1)∧∀ i,i < s.next→tag i≠c→(s1.put mid (.map (mEs (updM L k n nid)))).obj i=s.obj i:=by
 obtain ⟨hg,hlen⟩:=h.cur k m hm
 have hap:=app_grow (nid:=nid) (e:=[.int .i64 n]) hg (int_all _) ⟨rfl,rfl⟩ (by rw [List.length_map]; omega)
 rw [List.length_map] at hap
 have hlt:=h.lt
 have hmid : ¬ mid=nid:=by omega
 have kother : ∀ i,(∀ t∈L,t.1=k→t.2.2≠i)→(killv (curV L k) ⟨m,s.obj⟩).obj i=s.obj i:=by
  intro i hne
  rcases cur_spec L k with ⟨h1,_⟩ | ⟨t,ht,hk,h1,_⟩
  ·rw [h1]; rfl
  ·rw [h1]
   show (if i=t.2.2 then none else s.obj i)=_
   rw [if_neg (fun e => hne t ht hk e.symm)]
 have hrow_ne_mid : ∀ i cs,s.obj i=some (.row cs)→¬ i=mid:=fun i cs hi e => by subst e; rw [h.map] at hi; cases hi
 refine ⟨_,hap,by rw [put_next,killv_next],?_,?_,fun nx hnx => ⟨?_,?_⟩⟩
 ·rw [put_obj,if_neg hmid]; exact killv_obj hg mid _ h.map (fun _ e => by cases e)
 ·intro i o hi ho hr
  rw [put_obj,if_neg (by omega)]; exact killv_obj hg i _ ho hr
 ·exact {
   map:=by
    show (if mid=mid then _ else _)=_
    rw [if_pos rfl]
   row:=by
    intro t ht
    rcases upd_mem h.keys t ht with ⟨h1,h2⟩ | rfl
    ·obtain ⟨r1,r2,r3⟩:=h.row t h1
     refine ⟨?_,by show t.2.2 < nx; omega,by omega⟩
     show (if t.2.2=mid then _ else if t.2.2=nid then _ else (killv (curV L k) ⟨m,s.obj⟩).obj t.2.2)=_
     rw [if_neg (hrow_ne_mid _ _ r1),if_neg (by omega),kother _ fun u hu hk e => h2 (by rw [← ids_inj h.keys h.ids u hu t h1 e]; exact hk)]
     exact r1
    ·refine ⟨?_,hnx,?_⟩
     ·show (if nid=mid then _ else if nid=nid then _ else _)=_
      rw [if_neg (fun e => hmid e.symm),if_pos rfl,List.map_append]
      rfl
     ·show (curL L k ++ [n]).length≤B+1
      rw [List.length_append]; simp; exact hlen
   tagr:=by
    intro t ht
    rcases upd_mem h.keys t ht with ⟨h1,h2⟩ | rfl
    ·rw [tagU_lt hnew _ (h.row t h1).2.1]; exact h.tagr t h1
    ·unfold tagU; rw [if_pos rfl]
   ids:=(upd_ids L h.ids (fun hm => by
    obtain ⟨t,ht,e⟩:=List.mem_map.1 hm
    have:=(h.row t ht).2.1
    have e' : t.2.2=nid:=e
    omega)).1
   keys:=(upd_keys L h.keys).1
   lt:=by show mid < nx; omega
   tagm:=by rw [tagU_lt hnew _ h.lt]; exact h.tagm }
 ·intro i hi hc
  show (if i=mid then _ else if i=nid then _ else (killv (curV L k) ⟨m,s.obj⟩).obj i)=_
  rw [if_neg (fun e => hc (by rw [e]; exact h.tagm)),if_neg (by omega),kother _ fun t ht _ e => hc (by rw [← e]; exact h.tagr t ht)]
theorem MS.frz {s : Store} {tag : Nat→Nat} {c mid : Nat} {L : NmL} {B : Nat} (h : MS s tag c mid L B) {nm : Nms} (hp : (nmOf L).Perm nm) : FrzN s 0 (.map mid) (.tmap (nmV nm)):=by
 have hat : ∀ i,i < (mEs L).length→∃ t∈L,(mEs L).getD i (.undef,.undef)=(.str t.1,.slice t.2.2 0 t.2.1.length 1)∧(nmV (nmOf L)).getD i (.undef,.undef)=(.str t.1,.tslice (t.2.1.map Md.intC)):=by
  intro i hi
  have hi' : i < L.length:=by simpa [mEs] using hi
  exact ⟨L[i],List.getElem_mem hi',by simp [mEs,List.getD_eq_getElem?_getD,hi'],by simp [nmV,nmOf,List.getD_eq_getElem?_getD,hi']⟩
 have hkn : KN nm:=KN.perm (nm:=nmOf L) (by show ((nmOf L).map (·.1)).Nodup; unfold nmOf; rw [List.map_map]; exact h.keys) hp
 refine .map mid (mEs L) (nmV (nmOf L)) (nmV nm) (Nat.not_lt_zero _) h.map (by simp [nmV,nmOf,mEs]) (hp.map _) ⟨?_,.str,fun e he => ?_⟩ (fun i hi => ?_) (fun i hi => ?_)
 ·have : (nmV nm).map (·.1)=(nm.map (·.1)).map IV.str:=by simp [nmV]
  rw [this]
  exact List.Pairwise.map _ (fun a b hab e => hab (by cases e; rfl)) hkn
 ·simp only [nmV,List.mem_map] at he
  obtain ⟨t,_,rfl⟩:=he
  trivial
 ·obtain ⟨t,ht,e1,e2⟩:=hat i hi
  rw [e1,e2]; exact frz_str _
 ·obtain ⟨t,ht,e1,e2⟩:=hat i hi
  rw [e1,e2]
  obtain ⟨r1,r2,_⟩:=h.row t ht
  have hg : Grow s (.slice t.2.2 0 t.2.1.length 1) 1 (t.2.1.map Md.intC):=.inr ⟨t.2.2,by rw [List.length_map],r1,r2⟩
  refine hg.frz (fun x hx => (int_all _ x hx).1) (fun _ _ => Nat.not_lt_zero _) fun e he c hc => ?_
  obtain ⟨n,_,rfl⟩:=List.mem_map.1 he
  cases hc with
  | head => exact .int _ _
  | tail _ h => cases h
structure IS (s : Store) (pp m1 m2 m3 : Nat) (all : List Package) (rv : IV) (L1 L2 L3 : NmL) (tag : Nat→Nat) (B : Nat) : Prop where
 cell : s.obj pp=some (.cells [rv,.map m1,.map m2,.map m3])
 ltp : pp < s.next
 grow : Grow s rv 15 (all.map Package.cs)
 tagr : ∀ id n,rv=.slice id 0 n 15→tag id=0
 m1 : MS s tag 1 m1 L1 B
 m2 : MS s tag 2 m2 L2 B
 m3 : MS s tag 3 m3 L3 B
 tagp : tag pp=4
theorem IS.mono {s s' : Store} {pp m1 m2 m3 : Nat} {all : List Package} {rv : IV} {L1 L2 L3 : NmL} {tag : Nat→Nat} {B B' : Nat} (h : IS s pp m1 m2 m3 all rv L1 L2 L3 tag B) (hB : B≤B') (hn : s.next≤s'.next) (ho : ∀ i,i < s.next→s'.obj i=s.obj i) : IS s' pp m1 m2 m3 all rv L1 L2 L3 tag B' where
 cell:=by rw [ho _ h.ltp]; exact h.cell
 ltp:=by have:=h.ltp; omega
 grow:=h.grow.mono hn fun id _ hid => ho id hid
 tagr:=h.tagr
 m1:=h.m1.keep hB hn (fun i hi _ => ho i hi) fun _ _ => rfl
 m2:=h.m2.keep hB hn (fun i hi _ => ho i hi) fun _ _ => rfl
 m3:=h.m3.keep hB hn (fun i hi _ => ho i hi) fun _ _ => rfl
 tagp:=h.tagp
theorem grow_row {s s' : Store} {rv : IV} {es : List (List IV)} {tag : Nat→Nat} (h : Grow s rv 15 es) (ht : ∀ id n,rv=.slice id 0 n 15→tag id=0) (hn : s.next≤s'.next) (ho : ∀ i,i < s.next→tag i=0→s'.obj i=s.obj i) : Grow s' rv 15 es :=
 h.mono hn fun id hv hid => ho id hid (ht id _ hv)
theorem grow_tag {s : Store} {rv : IV} {es : List (List IV)} {tag : Nat→Nat} {c nid : Nat} (h : Grow s rv 15 es) (ht : ∀ id n,rv=.slice id 0 n 15→tag id=0) (hn : s.next≤nid) : ∀ id n,rv=.slice id 0 n 15→tagU tag c nid id=0:=fun id n hv => by
 rcases h with ⟨h1,_⟩ | ⟨id',h1,_,hlt⟩
 ·rw [h1] at hv; cases hv
 ·have e : id'=id:=by rw [h1] at hv; cases hv; rfl
  subst e
  rw [tagU_lt hn _ hlt]; exact ht _ _ hv
theorem IS.of1 {s s' : Store} {pp m1 m2 m3 nid : Nat} {all : List Package} {rv : IV} {L1 L2 L3 L' : NmL} {tag : Nat→Nat} {B : Nat} (h : IS s pp m1 m2 m3 all rv L1 L2 L3 tag B) (hn : s.next≤s'.next) (hnid : s.next≤nid) (hm : MS s' (tagU tag 1 nid) 1 m1 L' (B+1)) (ho : ∀ i,i < s.next→tag i≠1→s'.obj i=s.obj i) : IS s' pp m1 m2 m3 all rv L' L2 L3 (tagU tag 1 nid) (B+1) where
 cell:=by rw [ho _ h.ltp (by rw [h.tagp]; decide)]; exact h.cell
 ltp:=by have:=h.ltp; omega
 grow:=grow_row h.grow h.tagr hn fun i hi e => ho i hi (by rw [e]; decide)
 tagr:=grow_tag h.grow h.tagr hnid
 m1:=hm
 m2:=h.m2.keep (Nat.le_succ _) hn (fun i hi e => ho i hi (by rw [e]; decide)) (tagU_lt hnid)
 m3:=h.m3.keep (Nat.le_succ _) hn (fun i hi e => ho i hi (by rw [e]; decide)) (tagU_lt hnid)
 tagp:=by rw [tagU_lt hnid _ h.ltp]; exact h.tagp
theorem IS.of2 {s s' : Store} {pp m1 m2 m3 nid : Nat} {all : List Package} {rv : IV} {L1 L2 L3 L' : NmL} {tag : Nat→Nat} {B : Nat} (h : IS s pp m1 m2 m3 all rv L1 L2 L3 tag B) (hn : s.next≤s'.next) (hnid : s.next≤nid) (hm : MS s' (tagU tag 2 nid) 2 m2 L' (B+1)) (ho : ∀ i,i < s.next→tag i≠2→s'.obj i=s.obj i) : IS s' pp m1 m2 m3 all rv L1 L' L3 (tagU tag 2 nid) (B+1) where
 cell:=by rw [ho _ h.ltp (by rw [h.tagp]; decide)]; exact h.cell
 ltp:=by have:=h.ltp; omega
 grow:=grow_row h.grow h.tagr hn fun i hi e => ho i hi (by rw [e]; decide)
 tagr:=grow_tag h.grow h.tagr hnid
 m1:=h.m1.keep (Nat.le_succ _) hn (fun i hi e => ho i hi (by rw [e]; decide)) (tagU_lt hnid)
 m2:=hm
 m3:=h.m3.keep (Nat.le_succ _) hn (fun i hi e => ho i hi (by rw [e]; decide)) (tagU_lt hnid)
 tagp:=by rw [tagU_lt hnid _ h.ltp]; exact h.tagp
theorem IS.of3 {s s' : Store} {pp m1 m2 m3 nid : Nat} {all : List Package} {rv : IV} {L1 L2 L3 L' : NmL} {tag : Nat→Nat} {B : Nat} (h : IS s pp m1 m2 m3 all rv L1 L2 L3 tag B) (hn : s.next≤s'.next) (hnid : s.next≤nid) (hm : MS s' (tagU tag 3 nid) 3 m3 L' (B+1)) (ho : ∀ i,i < s.next→tag i≠3→s'.obj i=s.obj i) : IS s' pp m1 m2 m3 all rv L1 L2 L' (tagU tag 3 nid) (B+1) where
 cell:=by rw [ho _ h.ltp (by rw [h.tagp]; decide)]; exact h.cell
 ltp:=by have:=h.ltp; omega
 grow:=grow_row h.grow h.tagr hn fun i hi e => ho i hi (by rw [e]; decide)
 tagr:=grow_tag h.grow h.tagr hnid
 m1:=h.m1.keep (Nat.le_succ _) hn (fun i hi e => ho i hi (by rw [e]; decide)) (tagU_lt hnid)
 m2:=h.m2.keep (Nat.le_succ _) hn (fun i hi e => ho i hi (by rw [e]; decide)) (tagU_lt hnid)
 m3:=hm
 tagp:=by rw [tagU_lt hnid _ h.ltp]; exact h.tagp
theorem pkg_all (l : List Package) : ∀ e∈l.map Package.cs,e.length=15∧e.all IV.leaf=true:=fun e he => by
 obtain ⟨x,_,rfl⟩:=List.mem_map.1 he
 exact ⟨pkg_len x,pkg_leaf x⟩
theorem IS.push {s : Store} {pp m1 m2 m3 : Nat} {all : List Package} {rv : IV} {L1 L2 L3 : NmL} {tag : Nat→Nat} {B : Nat} (h : IS s pp m1 m2 m3 all rv L1 L2 L3 tag B) (x : Package) (m nid : Nat) (hm : s.next≤m) (hnew : s.next≤nid) (hb : all.length < 2 ^ 30) :
  ∃ s1,appI ⟨m,s.obj⟩ nid 15 rv (.tslice [x.cs])=some (.slice nid 0 (all.length+1) 15,s1)∧s1.next=m∧s1.obj pp=s.obj pp∧(∀ i o,i < s.next→s.obj i=some o→(∀ cs,o≠.row cs)→s1.obj i=some o) ∧
   ∀ nx,nid < nx→IS ⟨nx,(s1.put pp (.cells [.slice nid 0 (all.length+1) 15,.map m1,.map m2,.map m3])).obj⟩ pp m1 m2 m3 (all ++ [x]) (.slice nid 0 (all.length+1) 15) L1 L2 L3 (tagU tag 0 nid) B:=by
 have hg : Grow ⟨m,s.obj⟩ rv 15 (all.map Package.cs):=Grow.mono (σ:=s) h.grow hm fun _ _ _ => rfl
 have hap:=app_grow (nid:=nid) (e:=x.cs) hg (pkg_all all) ⟨pkg_len x,pkg_leaf x⟩ (by rw [List.length_map]; omega)
 rw [List.length_map] at hap
 have hlt:=h.ltp
 have hpp : ¬ pp=nid:=by omega
 have kp:=killv_obj hg pp _ h.cell (fun _ e => by cases e)
 have kk : ∀ i,i < s.next→tag i≠0→tag i≠4→((killv rv ⟨m,s.obj⟩).put nid (.row (all.map Package.cs ++ [x.cs]).flatten) |>.put pp (.cells [.slice nid 0 (all.length+1) 15,.map m1,.map m2,.map m3])).obj i=s.obj i:=by
  intro i hi h0 h4
  show (if i=pp then _ else if i=nid then _ else (killv rv ⟨m,s.obj⟩).obj i)=_
  rw [if_neg (fun e => h4 (by rw [e]; exact h.tagp)),if_neg (by omega)]
  rcases h.grow with ⟨hv,_⟩ | ⟨id,hv,ho,hl⟩
  ·rw [hv]; rfl
  ·have ht:=h.tagr id _ hv
   rw [hv]
   show (if i=id then none else s.obj i)=_
   rw [if_neg (fun e => h0 (by rw [e]; exact ht))]
 refine ⟨_,hap,by rw [put_next,killv_next],by rw [put_obj,if_neg hpp,kp,h.cell],?_,fun nx hnx => ?_⟩
 ·intro i o hi ho hr
  rw [put_obj,if_neg (by omega)]; exact killv_obj hg i _ ho hr
 ·exact {
   cell:=by
    show (if pp=pp then _ else _)=_
    rw [if_pos rfl]
   ltp:=by show pp < nx; omega
   grow:=by
    refine .inr ⟨nid,by rw [List.map_append,List.length_append,List.length_map]; rfl,?_,hnx⟩
    show (if nid=pp then _ else if nid=nid then _ else _)=_
    rw [if_neg (fun e => hpp e.symm),if_pos rfl,List.map_append]; rfl
   tagr:=fun id n hv => by cases hv; unfold tagU; rw [if_pos rfl]
   m1:=h.m1.keep (Nat.le_refl _) (by show s.next≤nx; omega) (fun i hi e => kk i hi (by rw [e]; decide) (by rw [e]; decide)) (tagU_lt hnew)
   m2:=h.m2.keep (Nat.le_refl _) (by show s.next≤nx; omega) (fun i hi e => kk i hi (by rw [e]; decide) (by rw [e]; decide)) (tagU_lt hnew)
   m3:=h.m3.keep (Nat.le_refl _) (by show s.next≤nx; omega) (fun i hi e => kk i hi (by rw [e]; decide) (by rw [e]; decide)) (tagU_lt hnew)
   tagp:=by rw [tagU_lt hnew _ h.ltp]; exact h.tagp }
theorem IS.frz {s : Store} {pp m1 m2 m3 : Nat} {all : List Package} {rv : IV} {L1 L2 L3 : NmL} {tag : Nat→Nat} {B : Nat} (h : IS s pp m1 m2 m3 all rv L1 L2 L3 tag B) {x : Index} (h0 : x.all=all) (h1 : (nmOf L1).Perm x.prov) (h2 : (nmOf L2).Perm x.names) (h3 : (nmOf L3).Perm x.over) : FrzN s 0 (.ptr pp 0) x.v:=by
 subst h0
 refine .ptr pp 0 _ _ (Nat.not_lt_zero _) (.inl h.cell) (Nat.le_refl _) fun j hj => ?_
 have hj3 : j=0 ∨ j=1 ∨ j=2 ∨ j=3:=by simp only [List.length_cons,List.length_nil] at hj; omega
 rcases hj3 with rfl | rfl | rfl | rfl
 ·refine h.grow.frz (fun x hx => (pkg_all _ x hx).1) (fun _ _ => Nat.not_lt_zero _) fun e he c hc => ?_
  obtain ⟨r,_,rfl⟩:=List.mem_map.1 he
  exact bnd_pkg r c hc
 ·exact h.m1.frz h1
 ·exact h.m2.frz h2
 ·exact h.m3.frz h3
theorem MS.keep2 {s s' : Store} {tag : Nat→Nat} {c mid : Nat} {L : NmL} {B B' : Nat} (h : MS s tag c mid L B) (hB : B≤B') (hn : s.next≤s'.next) (ho : ∀ i o,i < s.next→s.obj i=some o→(∀ l c,o≠.miter l c)→s'.obj i=some o) : MS s' tag c mid L B' where
 map:=ho _ _ h.lt h.map (fun _ _ e => by cases e)
 row:=fun t m => ⟨ho _ _ (h.row t m).2.1 (h.row t m).1 (fun _ _ e => by cases e),by have:=(h.row t m).2.1; omega,by have:=(h.row t m).2.2; omega⟩
 tagr:=h.tagr
 ids:=h.ids
 keys:=h.keys
 lt:=by have:=h.lt; omega
 tagm:=h.tagm
theorem IS.keep2 {s s' : Store} {pp m1 m2 m3 : Nat} {all : List Package} {rv : IV} {L1 L2 L3 : NmL} {tag : Nat→Nat} {B B' : Nat} (h : IS s pp m1 m2 m3 all rv L1 L2 L3 tag B) (hB : B≤B') (hn : s.next≤s'.next) (ho : ∀ i o,i < s.next→s.obj i=some o→(∀ l c,o≠.miter l c)→s'.obj i=some o) : IS s' pp m1 m2 m3 all rv L1 L2 L3 tag B' where
 cell:=ho _ _ h.ltp h.cell (fun _ _ e => by cases e)
 ltp:=by have:=h.ltp; omega
 grow:=by
  rcases h.grow with h0 | ⟨id,hv,hr,hid⟩
  ·exact .inl h0
  ·exact .inr ⟨id,hv,ho _ _ hid hr (fun _ _ e => by cases e),by omega⟩
 tagr:=h.tagr
 m1:=h.m1.keep2 hB hn ho
 m2:=h.m2.keep2 hB hn ho
 m3:=h.m3.keep2 hB hn ho
 tagp:=h.tagp
theorem map_erase {α β : Type} (f : α→β) : ∀ (l : List α) (k : Nat),(l.map f).eraseIdx k=(l.eraseIdx k).map f
 | [],_ => rfl
 | _ :: _,0 => rfl
 | a :: l,k+1 => by simp [map_erase f l k]
theorem perm_erase {α : Type} : ∀ (l : List α) (k : Nat) (h : k < l.length),l.Perm (l[k] :: l.eraseIdx k)
 | [],k,h => by simp at h
 | a :: l,0,_ => .refl _
 | a :: l,k+1,h => ((perm_erase l k (by simpa using h)).cons a).trans (.swap _ _ _)
theorem mn_at {s : Store} {id : Nat} {l : List (IV × IV)} {c : Option (IV × IV)} (h : s.obj id=some (.miter l c)) : mnextI s (.ptr id 0)=some (id,l):=by simp only [mnextI,h]
theorem me_at {s : Store} {id : Nat} {l : List (IV × IV)} {c : IV × IV} (h : s.obj id=some (.miter l (some c))) : mentI s (.ptr id 0)=some (.tuple [c.1,c.2]):=by simp only [mentI,h]
end Go.Id.Tryz
/- match.New: what it makes. Conditions: sizes that fit. -/
namespace Go.Id.Tryz
open Go Go.Id Go.Proofs Go.Id.Md
theorem offFold_len : ∀ (ks l : List Str),(ks.foldl offAdd l).length≤l.length+ks.length
 | [],l => Nat.le_refl _
 | k :: ks,l => by
  refine Nat.le_trans (offFold_len ks _) ?_
  have : (offAdd l k).length≤l.length+1:=by
   unfold offAdd; split
   ·omega
   ·simp
  simp only [List.length_cons]; omega
theorem offK_len (p : Package) : (offK p).length≤p.provides.length+p.files.length+1:=by
 refine Nat.le_trans (offFold_len _ _) ?_
 have:=offFold_len (p.provides.map (·.name)) [p.name]
 simp only [List.length_map,List.length_cons,List.length_nil] at this
 omega
theorem matchNew_pc (p : Pool) (hf : ∀ r∈p.rows,r.pkg.Fit) (hlen : p.rows.length≤2 ^ 14) (hs : ∀ r∈p.rows,r.pkg.provides.length+r.pkg.files.length+r.pkg.obsoletes.length+3≤2 ^ 15) :
  PC Tryz.prog EE 80 [p.v] (.tuple [(idxM (p.rows.map (·.pkg))).v,.int .i64 0]):=by
 obtain ⟨pk,hpk0⟩ : ∃ pk,p.rows.map (·.pkg)=pk:=⟨_,rfl⟩
 have hpl : pk.length=p.rows.length:=by rw [← hpk0,List.length_map]
 rw [hpk0]
 obtain ⟨W,hW⟩ : ∃ W : Nat,W=2 ^ 15:=⟨_,rfl⟩
 have hC:=poolCount_pc p
 have hP:=fun (n : Nat) (h : n < p.rows.length) => poolPackage_pc p n h (hf _ (List.getElem_mem h))
 have hb:=bnd_pool p
 obtain ⟨cs,hcs⟩ : ∃ cs,p.v=.tptr cs:=⟨_,rfl⟩
 rw [hcs] at hC hP hb ⊢
 refine PC_e hE fok80 (Nat.le_of_ble_eq_true rfl) (fun a ha => by cases List.mem_singleton.1 ha; exact hb) ?_
 simp only [ic80,go_sem]
 refine call_pc fok17 hC ?_
 simp only [go_sem]
 refine loop_up noT (fun i fr s => fr=[(0,.tptr cs),(4,.ptr 3 0),(19,.int .i64 p.rows.length),(20,.int .i64 i)]∧∃ rv L1 L2 L3 tag,IS s 3 0 1 2 (pk.take i) rv L1 L2 L3 tag (i * W) ∧
  (nmOf L1).Perm (idxM (pk.take i)).prov∧(nmOf L2).Perm (idxM (pk.take i)).names∧(nmOf L3).Perm (idxM (pk.take i)).over) p.rows.length ⟨rfl,.nilslice,[],[],[],(fun i => if i=0 then 1 else if i=1 then 2 else if i=2 then 3 else 4),?_,.refl _,.refl _,.refl _⟩ ?_
 ·have e0 : ∀ (c mid : Nat) (L : NmL) (st : Store) (tag : Nat→Nat),L=[]→st.obj mid=some (.map [])→mid < st.next→tag mid=c→MS st tag c mid L (0 * W):=fun c mid L st tag h1 h2 h3 h4 => by
   subst h1
   exact { map:=h2,row:=fun t ht => (by cases ht),tagr:=fun t ht => (by cases ht),ids:=List.nodup_nil,keys:=List.nodup_nil,lt:=h3,tagm:=h4 }
  refine { cell:=rfl,ltp:=Nat.lt_succ_self 3,grow:=.inl ⟨rfl,rfl⟩,tagr:=fun id n h => (by cases h),m1:=e0 1 0 [] _ _ rfl rfl ?_ rfl,m2:=e0 2 1 [] _ _ rfl rfl ?_ rfl,m3:=e0 3 2 [] _ _ rfl rfl ?_ rfl,tagp:=rfl }
  ·show 0 < 4; decide
  ·show 1 < 4; decide
  ·show 2 < 4; decide
 rintro i fr s hle ⟨rfl,rv,L1,L2,L3,tag,hI,p1,p2,p3⟩
 by_cases hlt : i < p.rows.length
 ·have c1 : (i : Int) < p.rows.length:=by omega
  have c2 : (0 : Int)≤i:=by omega
  have w1:=wrapS (i:=i) (by omega)
  have hQ:=hP i hlt
  have hx : p.rows[i]∈p.rows:=List.getElem_mem hlt
  have hfx:=hf _ hx
  have hsx:=hs _ hx
  have htk : pk.take (i+1)=pk.take i ++ [p.rows[i].pkg]:=by
   rw [← hpk0,List.take_add_one,List.getElem?_map,List.getElem?_eq_getElem hlt]; rfl
  generalize hpk : p.rows[i].pkg=x at *
  simp only [go_sem,c1,c2]
  refine call_pc fok19 hQ ?_
  have e3 : ¬ 3=s.next:=by have:=hI.ltp; omega
  have hiW : i * W+W≤2 ^ 29:=by
   have h1 : i * W+W=(i+1) * W:=(Nat.succ_mul i W).symm
   rw [h1,hW]; omega
  have hWx : x.provides.length+x.files.length+x.obsoletes.length+3≤W:=by rw [hW]; exact hsx
  have e3' : ¬ s.next=3:=fun e => e3 e.symm
  simp only [go_sem,pkg_len,pkg_take,pkg_leaf,e3,hI.cell,Nat.add_assoc]
  generalize hS : Store.put (Store.put _ s.next _) s.next (IObj.cells x.cs)=S1
  have hS1 : S1.next=s.next+1:=by rw [← hS]; rfl
  have hbx : S1.obj s.next=some (.cells x.cs):=by rw [← hS]; simp only [put_obj,if_true]
  have h1 : IS S1 3 0 1 2 (pk.take i) rv L1 L2 L3 tag (i * W):=hI.mono (Nat.le_refl _) (by omega) fun j hj => by
   have e : ¬ j=s.next:=by omega
   rw [← hS]; simp only [put_obj,e,if_false]
  clear hS
  have hal : (pk.take i).length=i:=by rw [List.length_take]; omega
  obtain ⟨t1,ha1,ha2,ha3,ha4,hps⟩:=h1.push x (s.next+12) (s.next+8) (by omega) (by omega) (by rw [hal]; omega)
  rw [hal] at ha1 hps
  rw [ha1]
  have hc1 : t1.obj 3=some (.cells [rv,.map 0,.map 1,.map 2]):=by rw [ha3]; exact h1.cell
  have hb1 : t1.obj s.next=some (.cells x.cs):=ha4 _ _ (by omega) hbx (fun _ e => by cases e)
  have h2:=hps t1.next (by omega)
  generalize hX : (IObj.cells [.slice (s.next+8) 0 (i+1) 15,.map 0,.map 1,.map 2])=X at hps h2
  have hlk2 : ∀ m,lkpI ⟨m,(t1.put 3 X).obj⟩ 2 .nilslice false (.map 1) (.str x.name)=some (curV L2 x.name):=fun m => lkp_m (σ:=⟨m,(t1.put 3 X).obj⟩) h2.m2.map x.name
  obtain ⟨t2,ib1,ib2,ib3,ib4,hpt⟩:=h2.m2.upd x.name (i : Int) (t1.next+17) (t1.next+15) (by show t1.next≤_; omega) (by show t1.next≤_; omega) (by omega)
  simp only at ib1 ib3
  subst hX
  simp only [go_sem,e3',hc1,hb1,pkg_head,hlk2,ib1,Nat.add_assoc]
  rw [mupd_m ib3 x.name (i : Int) (t1.next+15)]
  have g3 : 3 < s.next:=hI.ltp
  have hb2 : (t2.put 1 (IObj.map (mEs (updM L2 x.name (i : Int) (t1.next+15))))).obj s.next=some (.cells x.cs):=by
   have e : ¬ s.next=1:=by omega
   simp only [put_obj,e,if_false]
   refine ib4 _ _ (by show s.next < t1.next; omega) ?_ (fun _ e => by cases e)
   simp only [put_obj,e3',if_false]; exact hb1
  have hn2 : (t2.put 1 (IObj.map (mEs (updM L2 x.name (i : Int) (t1.next+15))))).next=t1.next+17:=ib2
  have hpt':=hpt (t2.put 1 (IObj.map (mEs (updM L2 x.name (i : Int) (t1.next+15))))).next (by rw [hn2]; omega)
  have h3:=h2.of2 (s':=t2.put 1 (IObj.map (mEs (updM L2 x.name (i : Int) (t1.next+15))))) (nid:=t1.next+15) (by rw [hn2]; show t1.next≤_; omega) (by show t1.next≤_; omega) hpt'.1 hpt'.2
  clear hpt'
  have q2 : (nmOf (updM L2 x.name (i : Int) (t1.next+15))).Perm (nmAdd (idxM (pk.take i)).names x.name i):=by
   rw [nmOf_upd]; exact nmAdd_perm (by show ((nmOf L2).map (·.1)).Nodup; unfold nmOf; rw [List.map_map]; exact hI.m2.keys) p2
  generalize updM L2 x.name (i : Int) (t1.next+15)=L2' at *
  generalize t2.put 1 (IObj.map (mEs L2'))=S2 at *
  generalize tagU (tagU tag 0 (s.next+8)) 2 (t1.next+15)=tag2 at *
  clear hpt hps ib1 ib2 ib3 ib4 hlk2
  simp only [go_sem,hb2,pkg_len,pkg_take,pkg_leaf]
  refine call_pc fok146 (offered_pc x hfx) ?_
  simp only [go_sem,Nat.add_assoc]
  clear h1 h2 ha4 ha3 hc1 hb1 ha1 p2
  have hkn1 : KN (idxM (pk.take i)).prov:=KN.perm (nm:=nmOf L1) (by show ((nmOf L1).map (·.1)).Nodup; unfold nmOf; rw [List.map_map]; exact hI.m1.keys) p1
  have hol : (offK x).length≤x.provides.length+x.files.length+1:=offK_len x
  have hidx : idxM (pk.take (i+1))=idxAdd (idxM (pk.take i)) i x:=by
   rw [htk]; unfold idxM; rw [idxFrom_snoc,hal,Nat.zero_add]
  generalize pk.take i ++ [x]=allI at *
  generalize IV.slice (s.next+8) 0 (i+1) 15=rv2 at *
  have hsm : ¬ s.next=S2.next:=by omega
  refine loop_up noT (fun j fr t => fr=[(0,.tptr cs),(4,.ptr 3 0),(5,.int .i64 i),(6,.ptr s.next 0),(19,.int .i64 p.rows.length),(20,.int .i64 i),(60,.ptr S2.next 0)]∧S2.next+1≤t.next∧t.obj s.next=some (.cells x.cs) ∧
   ∃ done left cur L tg,(done ++ left).Perm (offK x)∧done.length=j∧t.obj S2.next=some (.miter (left.map sE) cur)∧IS t 3 0 1 2 allI rv2 L L2' L3 tg (i * W+1+j)∧(nmOf L).Perm (addAll (idxM (pk.take i)).prov done i)) (offK x).length
   ⟨rfl,Nat.le_refl _,?_,[],offK x,none,L1,tag2,.refl _,rfl,?_,?_,p1⟩ ?_
  ·simp only [put_obj,hsm,if_false]; exact hb2
  ·simp only [put_obj,if_true]
  ·refine h3.mono (Nat.le_refl _) (by show S2.next≤S2.next+1; omega) fun j hj => ?_
   have e : ¬ j=S2.next:=by omega
   simp only [put_obj,e,if_false]
  rintro j fr t hjle ⟨rfl,hnt,hbt,done,left,cur,L,tg,hpm,hdl,hmi,hIt,hpL⟩
  have hll : done.length+left.length=(offK x).length:=by rw [← hpm.length_eq,List.length_append]
  simp only [go_sem,mn_at hmi]
  refine ⟨fun hnil => ?_,fun k hk => ?_⟩
  ·have hl0 : left=[]:=by simpa using hnil
   subst hl0
   rw [List.append_nil] at hpm
   have q1:=hpL.trans (addAll_order hpm hkn1)
   simp only [go_sem,hbt,Package.cs,e_lO1]
   have hjl : j=(offK x).length:=by rw [← hdl]; simpa using hll
   subst hjl
   clear hmi hbt hpL hpm hll hdl
   refine loop_up noT (fun j fr u => fr=[(0,.tptr cs),(4,.ptr 3 0),(5,.int .i64 i),(19,.int .i64 p.rows.length),(20,.int .i64 i),(80,deps x.obsoletes),(81,.int .i64 x.obsoletes.length),(82,.int .i64 j)] ∧
    ∃ L3' tg',IS u 3 0 1 2 allI rv2 L L2' L3' tg' (i * W+1+(offK x).length+j)∧(nmOf L3').Perm (overAll (idxM (pk.take i)).over ((x.obsoletes.take j).map (·.name)) i)) x.obsoletes.length ⟨rfl,L3,tg,hIt,p3⟩ ?_
   rintro j fr u hjo ⟨rfl,L3',tg',hIu,r3⟩
   have hkn3 : KN (nmOf L3'):=by show ((nmOf L3').map (·.1)).Nodup; unfold nmOf; rw [List.map_map]; exact hIu.m3.keys
   by_cases hjlt : j < x.obsoletes.length
   ·obtain ⟨d,hd,_,hdr,hget,htk2⟩:=at_nth x.obsoletes j hjlt
    have d1 : (j : Int) < x.obsoletes.length:=by omega
    have d2 : (0 : Int)≤j:=by omega
    have w2:=wrapS (i:=j) (by omega)
    have g3u:=hIu.ltp
    have f3 : ¬ 3=u.next:=by omega
    simp only [go_sem,d1,d2,hget,Dep.cs,f3,hIu.cell,Nat.add_assoc]
    generalize hU : Store.put (Store.put _ u.next _) u.next _=U
    have hUn : U.next=u.next+1:=by rw [← hU]; rfl
    have hUd : U.obj u.next=some (.cells [.str d.name,.int .u8 d.op,.int .i64 d.evr.epoch,.str d.evr.ver,.str d.evr.rel]):=by rw [← hU]; simp only [put_obj,if_true]
    have hIU : IS U 3 0 1 2 allI rv2 L L2' L3' tg' (i * W+1+(offK x).length+j):=hIu.mono (Nat.le_refl _) (by omega) fun a ha => by
     have e : ¬ a=u.next:=by omega
     rw [← hU]; simp only [put_obj,e,if_false]
    clear hU
    have hlk : ∀ m,lkpI ⟨m,U.obj⟩ 2 .nilslice false (.map 2) (.str d.name)=some (curV L3' d.name):=fun m => lkp_m (σ:=⟨m,U.obj⟩) hIU.m3.map d.name
    simp only [go_sem,hlk]
    obtain ⟨hcg,hcl⟩:=hIU.m3.cur d.name (u.next+11) (by omega)
    have hfz : FrzN (⟨u.next+11,U.obj⟩ : Store) 0 (curV L3' d.name) (.tslice ((curL L3' d.name).map Md.intC)):=hcg.frz (fun y hy => (int_all _ y hy).1) (fun _ _ => Nat.not_lt_zero _) fun e he c hc => by
     obtain ⟨n,_,rfl⟩:=List.mem_map.1 he
     cases hc with
     | head => exact .int _ _
     | tail _ h => cases h
    have hat:=(FrzL.cons hfz (FrzL.cons (frz_int .i64 (i : Int)) .nil)).at
    refine call_c fok147 (C_still hE hat.1 hat.2 (by simp [IV.plain]) (hasInt_pc (curL L3' d.name) i (by omega))) ?_
    rintro v' s' ⟨rfl,rfl⟩
    refine ⟨Nat.le_refl _,?_⟩
    have hin : (i : Int)∈nmLook (overAll (idxM (pk.take i)).over ((x.obsoletes.take j).map (·.name)) i) d.name ↔ (i : Int)∈curL L3' d.name:=by
     rw [← nmLook_perm hkn3 r3,nmLook_cur]
    cases hc : decide ((i : Int)∈curL L3' d.name) with
    | true =>
     have hc' : (i : Int)∈curL L3' d.name:=of_decide_eq_true hc
     simp only [go_sem,w2]
     refine ⟨hjlt,L3',tg',?_,?_⟩
     ·have:=hIU.mono (s':=⟨u.next+11,U.obj⟩) (Nat.le_succ _) (by show U.next≤u.next+11; omega) fun _ _ => rfl
      simpa only [Nat.add_assoc,Nat.succ_eq_add_one] using this
     ·rw [htk2,List.map_append,List.map_cons,List.map_nil,overAll_snoc,if_pos (hin.2 hc')]; exact r3
    | false =>
     have hc' : ¬ (i : Int)∈curL L3' d.name:=of_decide_eq_false hc
     obtain ⟨t5,jb1,jb2,jb3,jb4,jpt⟩:=hIU.m3.upd d.name (i : Int) (u.next+28) (u.next+26) (by omega) (by omega) (by omega)
     simp only [go_sem,hIU.cell,hUd,hlk,jb1,Nat.add_assoc]
     rw [mupd_m jb3 d.name (i : Int) (u.next+26)]
     have hn5 : (t5.put 2 (IObj.map (mEs (updM L3' d.name (i : Int) (u.next+26))))).next=u.next+28:=jb2
     have jpt':=jpt (t5.put 2 (IObj.map (mEs (updM L3' d.name (i : Int) (u.next+26))))).next (by rw [hn5]; omega)
     have hI5:=hIU.of3 (s':=t5.put 2 (IObj.map (mEs (updM L3' d.name (i : Int) (u.next+26))))) (nid:=u.next+26) (by rw [hn5]; omega) (by omega) jpt'.1 jpt'.2
     have hq : (nmOf (updM L3' d.name (i : Int) (u.next+26))).Perm (nmAdd (overAll (idxM (pk.take i)).over ((x.obsoletes.take j).map (·.name)) i) d.name i):=by
      rw [nmOf_upd]
      exact nmAdd_perm hkn3 r3
     clear jpt jpt' jb1 jb3 jb4
     generalize t5.put 2 (IObj.map (mEs (updM L3' d.name (i : Int) (u.next+26))))=T5 at *
     simp only [go_sem,w2]
     refine ⟨hjlt,updM L3' d.name (i : Int) (u.next+26),_,by simpa only [Nat.add_assoc] using hI5,?_⟩
     rw [htk2,List.map_append,List.map_cons,List.map_nil,overAll_snoc,if_neg (fun e => hc' (hin.1 e))]; exact hq
   ·have hj' : j=x.obsoletes.length:=by omega
    subst hj'
    have d1 : ¬ (x.obsoletes.length : Int) < x.obsoletes.length:=by omega
    rw [List.take_length] at r3
    simp only [go_sem,d1,w1]
    refine ⟨hlt,rv2,L,L2',L3',tg',?_,?_,?_,?_⟩
    ·rw [htk]
     have hle2 : i * W+1+(offK x).length+x.obsoletes.length≤(i+1) * W:=by rw [Nat.succ_mul]; omega
     exact hIu.mono hle2 (Nat.le_refl _) fun _ _ => rfl
    ·rw [hidx]; exact q1
    ·rw [hidx]; exact q2
    ·rw [hidx]; exact r3
  ·have hge : (left.map sE).getD k (.undef,.undef)=sE left[k]:=by simp [List.getD_eq_getElem?_getD,hk]
   rw [hge,map_erase]
   generalize hT : Store.put t S2.next (IObj.miter ((left.eraseIdx k).map sE) (some (sE left[k])))=T
   have hTn : T.next=t.next:=by rw [← hT]; rfl
   have hTm : T.obj S2.next=some (.miter ((left.eraseIdx k).map sE) (some (sE left[k]))):=by rw [← hT]; simp only [put_obj,if_true]
   have hTb : T.obj s.next=some (.cells x.cs):=by rw [← hT]; simp only [put_obj,hsm,if_false]; exact hbt
   have hIT : IS T 3 0 1 2 allI rv2 L L2' L3 tg (i * W+1+j):=hIt.keep2 (Nat.le_refl _) (by omega) fun a o ha hao hne => by
    rw [← hT]
    have e : ¬ a=S2.next:=fun e => by subst e; rw [hmi] at hao; cases hao; exact hne _ _ rfl
    simp only [put_obj,e,if_false]; exact hao
   clear hT
   generalize hkey : left[k]=key at *
   obtain ⟨t3,ib1,ib2,ib3,ib4,hpt⟩:=hIT.m1.upd key (i : Int) (t.next+15) (t.next+13) (by omega) (by omega) (by omega)
   have hlk : ∀ m,lkpI ⟨m,T.obj⟩ 2 .nilslice false (.map 0) (.str key)=some (curV L key):=fun m => lkp_m (σ:=⟨m,T.obj⟩) hIT.m1.map key
   have hme : ∀ m,mentI ⟨m,T.obj⟩ (.ptr S2.next 0)=some (.tuple [.str key,.agg []]):=fun m => me_at (s:=⟨m,T.obj⟩) hTm
   simp only [go_sem,hme,hIT.cell,hlk,ib1,Nat.add_assoc]
   rw [mupd_m ib3 key (i : Int) (t.next+13)]
   have hn4 : (t3.put 0 (IObj.map (mEs (updM L key (i : Int) (t.next+13))))).next=t.next+15:=ib2
   have hpt':=hpt (t3.put 0 (IObj.map (mEs (updM L key (i : Int) (t.next+13))))).next (by rw [hn4]; omega)
   have hI4:=hIT.of1 (s':=t3.put 0 (IObj.map (mEs (updM L key (i : Int) (t.next+13))))) (nid:=t.next+13) (by rw [hn4]; omega) (by omega) hpt'.1 hpt'.2
   have hmi4 : (t3.put 0 (IObj.map (mEs (updM L key (i : Int) (t.next+13))))).obj S2.next=some (.miter ((left.eraseIdx k).map sE) (some (sE key))):=by
    have e : ¬ S2.next=0:=by omega
    simp only [put_obj,e,if_false]
    exact ib4 _ _ (by omega) hTm (fun _ e => by cases e)
   have hb4 : (t3.put 0 (IObj.map (mEs (updM L key (i : Int) (t.next+13))))).obj s.next=some (.cells x.cs):=by
    have e : ¬ s.next=0:=by omega
    simp only [put_obj,e,if_false]
    exact ib4 _ _ (by omega) hTb (fun _ e => by cases e)
   have hq : (nmOf (updM L key (i : Int) (t.next+13))).Perm (addAll (idxM (pk.take i)).prov (done ++ [key]) i):=by
    rw [nmOf_upd,addAll_snoc]
    exact nmAdd_perm (by show ((nmOf L).map (·.1)).Nodup; unfold nmOf; rw [List.map_map]; exact hIT.m1.keys) hpL
   clear hpt hpt' ib1 ib3 ib4
   generalize t3.put 0 (IObj.map (mEs (updM L key (i : Int) (t.next+13))))=T4 at *
   simp only [go_sem]
   refine ⟨by omega,by omega,hb4,done ++ [key],left.eraseIdx k,some (sE key),updM L key (i : Int) (t.next+13),_,?_,by rw [List.length_append,hdl]; rfl,hmi4,by simpa only [Nat.add_assoc] using hI4,hq⟩
   rw [List.append_assoc]
   refine List.Perm.trans (List.Perm.append_left done ?_) hpm
   rw [← hkey]
   exact (perm_erase left k hk).symm
 ·have hi' : i=p.rows.length:=by omega
  subst hi'
  have c1 : ¬ (p.rows.length : Int) < p.rows.length:=by omega
  rw [← hpl,List.take_length] at hI p1 p2 p3
  simp only [go_sem,c1]
  refine .tuple2 (.cons ?_ (.cons (frz_int _ _) .nil))
  have hall : ∀ (l : List Package) (y : Index) (n : Nat),(idxFrom y n l).all=y.all ++ l:=by
   intro l
   induction l with
   | nil => intro y n; simp [idxFrom]
   | cons a l ih => intro y n; simp only [idxFrom,ih,idxAdd]; simp
  exact hI.frz (by unfold idxM; rw [hall]; rfl) p1 p2 p3
end Go.Id.Tryz
