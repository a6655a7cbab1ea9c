/- Indexes,in plain words: names with their numbers,in whatever row. Conditions: none; no program in sight. -/
import Derived.Test.YtiallonafbejaaaGreatDoorMd
set_option linter.all false
namespace Go.Id.Md
open Go Go.Id
def nmLook : Nms→Str→List Int
 | [],_ => []
 | t :: ts,k => if k=t.1 then t.2 else nmLook ts k
def KN (nm : Nms) : Prop:=(nm.map (·.1)).Nodup
theorem nmAdd_mem {nm : Nms} {k : Str} {n : Int} (h : KN nm) (t : Str × List Int) : t∈nmAdd nm k n ↔ (t∈nm∧t.1≠k) ∨ t=(k,nmLook nm k ++ [n]):=by
 induction nm with
 | nil => simp [nmAdd,nmLook]
 | cons u us ih =>
  have h' : u.1 ∉ us.map (·.1)∧KN us:=by simpa [KN] using h
  simp only [nmAdd,nmLook]
  by_cases e : k=u.1
  ·rw [if_pos e,if_pos e]
   subst e
   simp only [List.mem_cons]
   constructor
   ·rintro (rfl | ht)
    ·exact .inr rfl
    ·exact .inl ⟨.inr ht,fun e => h'.1 (List.mem_map.2 ⟨t,ht,e⟩)⟩
   ·rintro (⟨rfl | ht,hne⟩ | rfl)
    ·exact absurd rfl hne
    ·exact .inr ht
    ·exact .inl rfl
  ·rw [if_neg e,if_neg e]
   simp only [List.mem_cons,ih h'.2]
   constructor
   ·rintro (rfl | ⟨h1,h2⟩ | rfl)
    ·exact .inl ⟨.inl rfl,fun e' => e e'.symm⟩
    ·exact .inl ⟨.inr h1,h2⟩
    ·exact .inr rfl
   ·rintro (⟨rfl | h1,h2⟩ | rfl)
    ·exact .inl rfl
    ·exact .inr (.inl ⟨h1,h2⟩)
    ·exact .inr (.inr rfl)
theorem nmAdd_keys {k : Str} {n : Int} : ∀ {nm : Nms},∀ x∈(nmAdd nm k n).map (·.1),x=k ∨ x∈nm.map (·.1):=by
 intro nm
 induction nm with
 | nil => intro x hx; simpa [nmAdd] using hx
 | cons u us ih =>
  intro x hx
  simp only [nmAdd] at hx
  split at hx
  ·rename_i e; simp only [List.map_cons,List.mem_cons] at hx ⊢
   rcases hx with h | h
   ·exact .inl h
   ·exact .inr (.inr h)
  ·simp only [List.map_cons,List.mem_cons] at hx ⊢
   rcases hx with h | h
   ·exact .inr (.inl h)
   ·rcases ih x h with h | h
    ·exact .inl h
    ·exact .inr (.inr h)
theorem nmAdd_kn {nm : Nms} {k : Str} {n : Int} (h : KN nm) : KN (nmAdd nm k n):=by
 induction nm with
 | nil => simp [KN,nmAdd]
 | cons u us ih =>
  have h' : u.1 ∉ us.map (·.1)∧KN us:=by simpa [KN] using h
  simp only [nmAdd]
  split
  ·rename_i e; subst e; exact h
  ·rename_i e
   show ((u :: nmAdd us k n).map (·.1)).Nodup
   rw [List.map_cons,List.nodup_cons]
   refine ⟨fun hm => ?_,ih h'.2⟩
   rcases nmAdd_keys _ hm with h1 | h1
   ·exact e h1.symm
   ·exact h'.1 h1
theorem KN.nd {nm : Nms} (h : KN nm) : nm.Nodup:=by
 induction nm with
 | nil => exact List.nodup_nil
 | cons u us ih =>
  have h' : u.1 ∉ us.map (·.1)∧KN us:=by simpa [KN] using h
  exact List.nodup_cons.2 ⟨fun hm => h'.1 (List.mem_map.2 ⟨u,hm,rfl⟩),ih h'.2⟩
theorem KN.perm {nm nm' : Nms} (h : KN nm) (p : nm.Perm nm') : KN nm':=(p.map (fun x : Str × List Int => x.1)).nodup_iff.1 h
theorem nmLook_mem {nm : Nms} (h : KN nm) {t : Str × List Int} (ht : t∈nm) : nmLook nm t.1=t.2:=by
 induction nm with
 | nil => cases ht
 | cons u us ih =>
  have h' : u.1 ∉ us.map (·.1)∧KN us:=by simpa [KN] using h
  simp only [nmLook]
  rcases List.mem_cons.1 ht with rfl | ht
  ·rw [if_pos rfl]
  ·rw [if_neg (fun e => h'.1 (List.mem_map.2 ⟨t,ht,e⟩))]
   exact ih h'.2 ht
theorem nmLook_none {nm : Nms} {k : Str} (h : k ∉ nm.map (·.1)) : nmLook nm k=[]:=by
 induction nm with
 | nil => rfl
 | cons u us ih =>
  simp only [List.map_cons,List.mem_cons,not_or] at h
  simp only [nmLook]
  rw [if_neg h.1]; exact ih h.2
theorem nmLook_perm {nm nm' : Nms} (h : KN nm) (p : nm.Perm nm') (k : Str) : nmLook nm k=nmLook nm' k:=by
 by_cases hk : k∈nm.map (·.1)
 ·obtain ⟨t,ht,rfl⟩:=List.mem_map.1 hk
  rw [nmLook_mem h ht,nmLook_mem (h.perm p) (p.mem_iff.1 ht)]
 ·rw [nmLook_none hk,nmLook_none (fun e => hk ((p.map (·.1)).mem_iff.2 e))]
theorem nmLook_add {nm : Nms} (h : KN nm) (k : Str) (n : Int) (j : Str) : nmLook (nmAdd nm k n) j=if j=k then nmLook nm k ++ [n] else nmLook nm j:=by
 induction nm with
 | nil =>
  simp only [nmAdd,nmLook]
  split <;> rfl
 | cons u us ih =>
  have h' : u.1 ∉ us.map (·.1)∧KN us:=by simpa [KN] using h
  simp only [nmAdd,nmLook]
  by_cases e : k=u.1
  ·rw [if_pos e,if_pos e]
   simp only [nmLook]
   by_cases ej : j=k
   ·rw [if_pos ej,if_pos ej]
   ·rw [if_neg ej,if_neg ej,if_neg (fun x => ej (x.trans e.symm))]
  ·rw [if_neg e,if_neg e]
   simp only [nmLook,ih h'.2]
   by_cases ej : j=k
   ·rw [if_pos ej,if_pos ej,if_neg (fun x => e (ej.symm.trans x))]
   ·rw [if_neg ej,if_neg ej]
theorem nmAdd_perm {nm nm' : Nms} {k : Str} {n : Int} (h : KN nm) (p : nm.Perm nm') : (nmAdd nm k n).Perm (nmAdd nm' k n):=by
 refine (List.perm_ext_iff_of_nodup (nmAdd_kn h).nd (nmAdd_kn (h.perm p)).nd).2 fun t => ?_
 rw [nmAdd_mem h,nmAdd_mem (h.perm p),nmLook_perm h p,p.mem_iff]
theorem nmAdd_comm {nm : Nms} {k j : Str} {n : Int} (h : KN nm) : (nmAdd (nmAdd nm k n) j n).Perm (nmAdd (nmAdd nm j n) k n):=by
 by_cases e : k=j
 ·subst e; exact .refl _
 refine (List.perm_ext_iff_of_nodup (nmAdd_kn (nmAdd_kn h)).nd (nmAdd_kn (nmAdd_kn h)).nd).2 fun t => ?_
 rw [nmAdd_mem (nmAdd_kn h),nmAdd_mem (nmAdd_kn h),nmAdd_mem h,nmAdd_mem h,nmLook_add h,nmLook_add h,if_neg (fun x => e x.symm),if_neg e]
 constructor
 ·rintro (⟨⟨h1,h2⟩ | rfl,h3⟩ | rfl)
  ·exact .inl ⟨.inl ⟨h1,h3⟩,h2⟩
  ·exact .inr rfl
  ·exact .inl ⟨.inr rfl,fun x => e x.symm⟩
 ·rintro (⟨⟨h1,h2⟩ | rfl,h3⟩ | rfl)
  ·exact .inl ⟨.inl ⟨h1,h3⟩,h2⟩
  ·exact .inr rfl
  ·exact .inl ⟨.inr rfl,e⟩
def addAll (nm : Nms) (ks : List Str) (n : Int) : Nms:=ks.foldl (fun m k => nmAdd m k n) nm
theorem addAll_kn {n : Int} : ∀ {ks : List Str} {nm : Nms},KN nm→KN (addAll nm ks n)
 | [],_,h => h
 | _ :: ks,_,h => addAll_kn (ks:=ks) (nmAdd_kn h)
theorem addAll_perm {n : Int} : ∀ (ks : List Str) {nm nm' : Nms},KN nm→nm.Perm nm'→(addAll nm ks n).Perm (addAll nm' ks n)
 | [],_,_,_,p => p
 | _ :: ks,_,_,h,p => addAll_perm ks (nmAdd_kn h) (nmAdd_perm h p)
theorem addAll_order {n : Int} {ks js : List Str} (p : ks.Perm js) : ∀ {nm : Nms},KN nm→(addAll nm ks n).Perm (addAll nm js n):=by
 induction p with
 | nil => intro nm _; exact .refl _
 | cons x _ ih => intro nm h; exact ih (nmAdd_kn h)
 | swap x y l => intro nm h; exact addAll_perm l (nmAdd_kn (nmAdd_kn h)) (nmAdd_comm h)
 | trans p1 _ ih1 ih2 => intro nm h; exact (ih1 h).trans (ih2 h)
theorem addAll_snoc (nm : Nms) (ks : List Str) (k : Str) (n : Int) : addAll nm (ks ++ [k]) n=nmAdd (addAll nm ks n) k n:=by simp [addAll]
def offAdd (l : List Str) (k : Str) : List Str:=if k∈l then l else l ++ [k]
def offK (p : Package) : List Str:=p.files.foldl offAdd ((p.provides.map (·.name)).foldl offAdd [p.name])
def overAll (nm : Nms) (ds : List Str) (n : Int) : Nms:=ds.foldl (fun m k => if n∈nmLook m k then m else nmAdd m k n) nm
theorem overAll_snoc (nm : Nms) (ks : List Str) (k : Str) (n : Int) : overAll nm (ks ++ [k]) n=if n∈nmLook (overAll nm ks n) k then overAll nm ks n else nmAdd (overAll nm ks n) k n:=by
 unfold overAll; rw [List.foldl_append]; rfl
structure Index where
 all : List Package
 prov : Nms
 names : Nms
 over : Nms
def Index.v (x : Index) : IV:=.tptr [.tslice (x.all.map Package.cs),.tmap (nmV x.prov),.tmap (nmV x.names),.tmap (nmV x.over)]
def idxAdd (x : Index) (n : Nat) (p : Package) : Index:=⟨x.all ++ [p],addAll x.prov (offK p) n,nmAdd x.names p.name n,overAll x.over (p.obsoletes.map (·.name)) n⟩
def idxFrom (x : Index) : Nat→List Package→Index
 | _,[] => x
 | n,p :: ps => idxFrom (idxAdd x n p) (n+1) ps
def idxM (l : List Package) : Index:=idxFrom ⟨[],[],[],[]⟩ 0 l
theorem idxFrom_snoc (ps : List Package) (p : Package) : ∀ (x : Index) (n : Nat),idxFrom x n (ps ++ [p])=idxAdd (idxFrom x n ps) (n+ps.length) p:=by
 induction ps with
 | nil => intro x n; rfl
 | cons q qs ih => intro x n; show idxFrom _ (n+1) (qs ++ [p])=_; rw [ih,List.length_cons]; congr 1; omega
theorem nmLook_cur (L : NmL) (k : Str) : nmLook (nmOf L) k=curL L k:=by
 induction L with
 | nil => rfl
 | cons t ts ih =>
  simp only [nmOf,List.map_cons,nmLook,curL,List.find?_cons] at ih ⊢
  by_cases h : k=t.1
  ·simp [h]
  ·simp only [h,decide_false,if_false] at ih ⊢
   exact ih
end Go.Id.Md
/- Indexes,in plain words: who stands in them,by number. Conditions: none; no program in sight. -/
namespace Go.Id.Md
open Go Go.Id
def numsOf (q : Package→Bool) (l : List Package) : List Int:=((List.range l.length).filter fun n => q (l.getD n default)).map fun (n : Nat) => (n : Int)
theorem numsOf_snoc (q : Package→Bool) (l : List Package) (p : Package) : numsOf q (l ++ [p])=numsOf q l ++ if q p then [(l.length : Int)] else []:=by
 unfold numsOf
 rw [List.length_append,List.length_singleton,List.range_succ,List.filter_append,List.map_append]
 congr 1
 ·congr 1
  refine List.filter_congr fun n hn => ?_
  have h:=List.mem_range.1 hn
  simp [List.getD_eq_getElem?_getD,List.getElem?_append,h]
 ·have e : (l ++ [p]).getD l.length default=p:=by simp [List.getD_eq_getElem?_getD]
  simp only [List.filter_cons,List.filter_nil,e]
  split <;> rfl
theorem numsOf_mem {q : Package→Bool} {l : List Package} {n : Int} : n∈numsOf q l ↔ ∃ m : Nat,n=m∧m < l.length∧q (l.getD m default)=true:=by
 unfold numsOf
 rw [List.mem_map]
 constructor
 ·rintro ⟨m,hm,rfl⟩
  obtain ⟨h1,h2⟩:=List.mem_filter.1 hm
  exact ⟨m,rfl,List.mem_range.1 h1,h2⟩
 ·rintro ⟨m,rfl,h1,h2⟩
  exact ⟨m,List.mem_filter.2 ⟨List.mem_range.2 h1,by simpa using h2⟩,rfl⟩
theorem numsOf_len (q : Package→Bool) (l : List Package) : (numsOf q l).length≤l.length:=by
 unfold numsOf
 rw [List.length_map]
 exact Nat.le_trans (List.length_filter_le _ _) (by simp)
theorem numsOf_filter (q r : Package→Bool) (l : List Package) : (numsOf q l).filter (fun n => r (l.getD n.toNat default))=numsOf (fun p => q p && r p) l:=by
 unfold numsOf
 rw [List.filter_map,List.filter_filter]
 congr 1
 refine List.filter_congr fun n _ => ?_
 show (r (l.getD ((n : Int)).toNat default) && q (l.getD n default))=_
 rw [Int.toNat_natCast,Bool.and_comm]
theorem numsOf_congr {q r : Package→Bool} {l : List Package} (h : ∀ p∈l,q p=r p) : numsOf q l=numsOf r l:=by
 unfold numsOf
 congr 1
 refine List.filter_congr fun n hn => ?_
 have hlt:=List.mem_range.1 hn
 refine h _ ?_
 rw [List.getD_eq_getElem?_getD,List.getElem?_eq_getElem hlt]
 exact List.getElem_mem hlt
theorem addAll_look {n : Int} : ∀ (ks : List Str) {nm : Nms},KN nm→ks.Nodup→∀ j,nmLook (addAll nm ks n) j=nmLook nm j ++ if j∈ks then [n] else []:=by
 intro ks
 induction ks with
 | nil => intro nm _ _ j; simp [addAll]
 | cons k ks ih =>
  intro nm h hnd j
  obtain ⟨h1,h2⟩:=List.nodup_cons.1 hnd
  show nmLook (addAll (nmAdd nm k n) ks n) j=_
  rw [ih (nmAdd_kn h) h2,nmLook_add h]
  by_cases e : j=k
  ·subst e; simp [h1]
  ·simp [e]
theorem overAll_kn {n : Int} : ∀ (ks : List Str) {nm : Nms},KN nm→KN (overAll nm ks n):=by
 intro ks
 induction ks with
 | nil => intro nm h; exact h
 | cons k ks ih =>
  intro nm h
  show KN (overAll (if n∈nmLook nm k then nm else nmAdd nm k n) ks n)
  split
  ·exact ih h
  ·exact ih (nmAdd_kn h)
theorem overAll_look {n : Int} : ∀ (ks : List Str) {nm : Nms},KN nm→∀ j,nmLook (overAll nm ks n) j=nmLook nm j ++ if j∈ks∧n ∉ nmLook nm j then [n] else []:=by
 intro ks
 induction ks with
 | nil => intro nm _ j; simp [overAll]
 | cons k ks ih =>
  intro nm h j
  show nmLook (overAll (if n∈nmLook nm k then nm else nmAdd nm k n) ks n) j=_
  by_cases hk : n∈nmLook nm k
  ·rw [if_pos hk,ih h]
   by_cases e : j=k
   ·subst e; simp [hk]
   ·simp [e]
  ·rw [if_neg hk,ih (nmAdd_kn h),nmLook_add h]
   by_cases e : j=k
   ·subst e; simp [hk]
   ·simp [e]
theorem offAdd_mem {l : List Str} {k j : Str} : j∈offAdd l k ↔ j∈l ∨ j=k:=by
 unfold offAdd
 split
 ·rename_i h; exact ⟨.inl,fun h' => h'.elim id fun e => e ▸ h⟩
 ·simp
theorem offFold_mem {j : Str} : ∀ (ks l : List Str),j∈ks.foldl offAdd l ↔ j∈l ∨ j∈ks:=by
 intro ks
 induction ks with
 | nil => intro l; simp
 | cons k ks ih => intro l; rw [List.foldl_cons,ih,offAdd_mem,List.mem_cons,or_assoc]
theorem offAdd_nd' {l : List Str} (h : l.Nodup) (k : Str) : (offAdd l k).Nodup:=by
 unfold offAdd
 split
 ·exact h
 ·rename_i hk
  rw [List.nodup_append]
  exact ⟨h,by simp,fun a ha b hb e => by simp at hb; subst hb; subst e; exact hk ha⟩
theorem offFold_nd' : ∀ (ks : List Str) {l : List Str},l.Nodup→(ks.foldl offAdd l).Nodup
 | [],_,h => h
 | k :: ks,_,h => offFold_nd' ks (offAdd_nd' h k)
theorem offK_nd' (p : Package) : (offK p).Nodup:=offFold_nd' _ (offFold_nd' _ (by simp))
theorem offK_mem (p : Package) (j : Str) : j∈offK p ↔ j=p.name ∨ (∃ d∈p.provides,d.name=j) ∨ j∈p.files:=by
 unfold offK
 rw [offFold_mem,offFold_mem]
 simp [or_assoc]
structure IdxIs (x : Index) (l : List Package) : Prop where
 all : x.all=l
 kp : KN x.prov
 kn : KN x.names
 ko : KN x.over
 prov : ∀ j,nmLook x.prov j=numsOf (fun p => decide (j∈offK p)) l
 names : ∀ j,nmLook x.names j=numsOf (fun p => decide (p.name=j)) l
 over : ∀ j,nmLook x.over j=numsOf (fun p => decide (∃ d∈p.obsoletes,d.name=j)) l
theorem IdxIs.add {x : Index} {l : List Package} (h : IdxIs x l) (p : Package) : IdxIs (idxAdd x l.length p) (l ++ [p]) where
 all:=by show x.all ++ [p]=_; rw [h.all]
 kp:=addAll_kn h.kp
 kn:=nmAdd_kn h.kn
 ko:=overAll_kn _ h.ko
 prov:=fun j => by
  show nmLook (addAll x.prov (offK p) _) j=_
  rw [addAll_look _ h.kp (offK_nd' p),h.prov,numsOf_snoc]
  simp
 names:=fun j => by
  show nmLook (nmAdd x.names p.name _) j=_
  rw [nmLook_add h.kn,h.names,h.names,numsOf_snoc]
  by_cases e : j=p.name
  ·subst e; simp
  ·have e' : ¬ p.name=j:=fun h => e h.symm
   simp [e,e']
 over:=fun j => by
  show nmLook (overAll x.over _ _) j=_
  rw [overAll_look _ h.ko,h.over,numsOf_snoc]
  have hn : (l.length : Int) ∉ numsOf (fun p => decide (∃ d∈p.obsoletes,d.name=j)) l:=fun hm => by
   obtain ⟨m,e,h1,_⟩:=numsOf_mem.1 hm
   omega
  simp [hn]
theorem idxFrom_is : ∀ (ps : List Package) {x : Index} {l : List Package},IdxIs x l→IdxIs (idxFrom x l.length ps) (l ++ ps):=by
 intro ps
 induction ps with
 | nil => intro x l h; rw [List.append_nil]; exact h
 | cons p ps ih =>
  intro x l h
  have:=ih (h.add p)
  rw [List.append_assoc] at this
  simpa [idxFrom] using this
theorem idxM_is (l : List Package) : IdxIs (idxM l) l:=by
 have h0 : IdxIs ⟨[],[],[],[]⟩ []:=⟨rfl,List.nodup_nil,List.nodup_nil,List.nodup_nil,fun _ => by simp [nmLook,numsOf],fun _ => by simp [nmLook,numsOf],fun _ => by simp [nmLook,numsOf]⟩
 exact idxFrom_is l h0
/-! ### Who provides -/
theorem named_off {p : Package} {d : Dep} (h : named p d=true) : p.name=d.name:=by
 unfold named meets own at h
 simp only [Bool.and_eq_true,decide_eq_true_eq] at h
 exact h.1
theorem provides_off {p : Package} {d : Dep} (h : provides p d=true) : d.name∈offK p:=by
 unfold provides at h
 rw [offK_mem]
 simp only [Bool.or_eq_true,Bool.and_eq_true,decide_eq_true_eq,List.any_eq_true] at h
 rcases h with (h | ⟨a,ha,h⟩) | ⟨_,h⟩
 ·exact .inl (named_off h).symm
 ·unfold meets at h
  simp only [Bool.and_eq_true,decide_eq_true_eq] at h
  exact .inr (.inl ⟨a,ha,h.1⟩)
 ·exact .inr (.inr (by simpa using h))
def providersM (l : List Package) (d : Dep) : List Int:=numsOf (fun p => provides p d) l
def namedM (l : List Package) (d : Dep) : List Int:=numsOf (fun p => named p d) l
theorem providers_eq (l : List Package) (d : Dep) : (nmLook (idxM l).prov d.name).filter (fun n => provides (l.getD n.toNat default) d)=providersM l d:=by
 rw [(idxM_is l).prov]
 refine (numsOf_filter (fun p => decide (d.name∈offK p)) (fun p => provides p d) l).trans ?_
 exact numsOf_congr fun p _ => by
  cases h : provides p d with
  | false => simp
  | true => simp [provides_off h]
theorem named_eq (l : List Package) (d : Dep) : (nmLook (idxM l).names d.name).filter (fun n => named (l.getD n.toNat default) d)=namedM l d:=by
 rw [(idxM_is l).names]
 refine (numsOf_filter (fun p => decide (p.name=d.name)) (fun p => named p d) l).trans ?_
 exact numsOf_congr fun p _ => by
  cases h : named p d with
  | false => simp
  | true => simp [named_off h]
end Go.Id.Md
/- Pools of packages that may be: sizes. Conditions: none; no program in sight. -/
namespace Go.Id.Md
open Go Go.Id
theorem reposFrom_may : ∀ (rs : List Repo) (i : Nat) (st : List PRow × Nms) (out : List PRow × Nms),reposFrom i rs st=some out→∀ r∈rs,r.packages.all pkgMay=true:=by
 intro rs
 induction rs with
 | nil => intro i st out _ r hr; cases hr
 | cons x xs ih =>
  intro i st out h r hr
  simp only [reposFrom] at h
  split at h
  ·cases h
  ·rename_i hc
   rcases List.mem_cons.1 hr with rfl | hr
   ·cases hb : r.packages.all pkgMay with
    | true => rfl
    | false => exact absurd (.inr (.inr hb)) hc
   ·exact ih _ _ _ h r hr
theorem newM_parts {repos : List Repo} {inst : List Package} {p : Pool} (h : newM repos inst=.inl p) : repos.length≤16∧inst.length+sumLen repos≤256∧inst.all pkgMay=true∧∀ r∈repos,r.packages.all pkgMay=true:=by
 unfold newM at h
 split at h
 ·cases h
 rename_i hc
 split at h
 ·cases h
 rename_i hm
 split at h
 ·rename_i rows nm hr
  exact ⟨by omega,by omega,by simpa using hm,reposFrom_may _ _ _ _ hr⟩
 ·cases h
theorem rowsOf_pkg (l : List Package) (a b : Int) : (rowsOf l a b).map (·.pkg)=l:=by
 induction l with
 | nil => rfl
 | cons x xs ih => show x :: (rowsOf xs a b).map (·.pkg)=_; rw [ih]
def pkgsOf (p : Pool) : List Package:=p.rows.map (·.pkg)
theorem reposRows_pkg : ∀ (rs : List Repo) (i : Nat),(reposRows i rs).map (·.pkg)=rs.flatMap (·.packages):=by
 intro rs
 induction rs with
 | nil => intro i; rfl
 | cons r rs ih => intro i; simp only [reposRows,List.map_append,ih,rowsOf_pkg,List.flatMap_cons]
theorem flat_len' : ∀ (rs : List Repo),(rs.flatMap (·.packages)).length=sumLen rs:=by
 intro rs
 induction rs with
 | nil => rfl
 | cons r rs ih => simp only [List.flatMap_cons,List.length_append,ih]; rfl
theorem newM_pkgs {repos : List Repo} {inst : List Package} {p : Pool} (h : newM repos inst=.inl p) : pkgsOf p=inst ++ repos.flatMap (·.packages):=by
 unfold pkgsOf
 rw [(newM_inl h).1,List.map_append,reposRows_pkg]
 congr 1
 exact rowsOf_pkg _ _ _
theorem newM_len {repos : List Repo} {inst : List Package} {p : Pool} (h : newM repos inst=.inl p) : p.rows.length≤256:=by
 have e : p.rows.length=(pkgsOf p).length:=by simp [pkgsOf]
 rw [e,newM_pkgs h,List.length_append,flat_len']
 exact (newM_parts h).2.1
theorem newM_mem {repos : List Repo} {inst : List Package} {p : Pool} (h : newM repos inst=.inl p) : ∀ x∈pkgsOf p,pkgMay x=true∧(x∈inst ∨ ∃ r∈repos,x∈r.packages):=by
 intro x hx
 rw [newM_pkgs h] at hx
 obtain ⟨_,_,h1,h2⟩:=newM_parts h
 rcases List.mem_append.1 hx with hx | hx
 ·exact ⟨List.all_eq_true.1 h1 x hx,.inl hx⟩
 ·obtain ⟨r,hr,hxr⟩:=List.mem_flatMap.1 hx
  exact ⟨List.all_eq_true.1 (h2 r hr) x hxr,.inr ⟨r,hr,hxr⟩⟩
def EVR.tiny (e : EVR) : Prop:=e.ver.length≤64∧e.rel.length≤64
theorem word_len {s : Str} (h : wordOK s=true) : s.length≤64:=by
 unfold wordOK at h
 simp only [Bool.and_eq_true,decide_eq_true_eq] at h
 exact h.1.2
theorem evr_tiny {e : EVR} {b : Bool} (h : evrMay e b=true) : e.tiny:=by
 unfold evrMay at h
 simp only [Bool.and_eq_true,Bool.or_eq_true,decide_eq_true_eq] at h
 refine ⟨word_len h.1.2,?_⟩
 rcases h.2 with h | h
 ·exact word_len h
 ·have:=List.isEmpty_iff.1 h.2; rw [this]; exact Nat.zero_le _
theorem dep_tiny {d : Dep} (h : depMay d=true) : 0≤d.op∧d.op < 256∧d.evr.tiny∧d.name.length≤64:=by
 unfold depMay at h
 simp only [Bool.and_eq_true] at h
 obtain ⟨⟨h1,h2⟩,h3⟩:=h
 have hn : d.name.length≤64:=by
  unfold nameOK at h1
  simp only [Bool.and_eq_true,decide_eq_true_eq] at h1
  exact h1.1.1.2
 have ho : 0≤d.op∧d.op < 256:=by
  unfold opMay at h2
  simp only [List.contains_iff_mem,List.mem_cons,List.not_mem_nil,or_false] at h2
  omega
 refine ⟨ho.1,ho.2,?_,hn⟩
 split at h3
 ·have : d.evr=evr0:=by simpa using h3
  rw [this]; exact ⟨by decide,by decide⟩
 ·simp only [Bool.and_eq_true] at h3
  exact evr_tiny h3.2
structure Package.Tiny (p : Package) : Prop where
 name : p.name.length≤64
 evr : p.evr.tiny
 prov : p.provides.length≤32∧∀ d∈p.provides,0≤d.op∧d.op < 256∧d.evr.tiny∧d.name.length≤64
 obs : p.obsoletes.length≤32∧∀ d∈p.obsoletes,0≤d.op∧d.op < 256∧d.evr.tiny∧d.name.length≤64
 files : p.files.length≤32
theorem pkg_tiny {p : Package} (h : pkgMay p=true) : p.Tiny:=by
 unfold pkgMay at h
 simp only [Bool.and_eq_true,decide_eq_true_eq] at h
 obtain ⟨⟨⟨⟨⟨⟨⟨⟨⟨⟨⟨⟨⟨⟨h1,_⟩,h3⟩,_⟩,_⟩,h6,h6'⟩,h7,h7'⟩,h8,_⟩,_⟩,_⟩,_⟩,_⟩,_⟩,_⟩,_⟩:=h
 refine ⟨?_,evr_tiny h3,⟨h6,fun d hd => dep_tiny (List.all_eq_true.1 h6' d hd)⟩,⟨h7,fun d hd => dep_tiny (List.all_eq_true.1 h7' d hd)⟩,h8⟩
 unfold nameOK at h1
 simp only [Bool.and_eq_true,decide_eq_true_eq] at h1
 exact h1.1.1.2
end Go.Id.Md
