/- What a package may offer; numbers that a list has. Conditions: sizes that fit. -/
import Derived.Test.YtiallonafbejaaaGreatDoorTUPF
import Derived.Test.YtiallonafbejaaaGreatDoorMm
set_option linter.all false
namespace Go.Id.Tryz
open Go Go.Id Go.Proofs Go.Id.Md
def idxOf (n : Int) : List Int→Nat→Int
 | [],_ => -1
 | a :: l,i => if n=a then Int.ofNat i else idxOf n l (i+1)
theorem idxOf_spec (n : Int) : ∀ (l : List Int) (i : Nat),(0≤idxOf n l i ↔ n∈l):=by
 intro l
 induction l with
 | nil => intro i; simp [idxOf]
 | cons a l ih =>
  intro i
  simp only [idxOf]
  split
  ·rename_i e; subst e; simp
  ·rename_i e; rw [ih]; simp [e]
theorem indexInt_pc (l : List Int) (n : Int) (hl : l.length < 2 ^ 40) : PC Tryz.prog EE 216 [.tslice (l.map Md.intC),.int .i64 n] (.int .i64 (idxOf n l 0)):=by
 refine PC_f fok216 (Nat.le_of_ble_eq_true rfl) fun σ => ?_
 simp only [ic216,go_sem]
 refine loop_up noT (fun i fr s => fr=[(0,.tslice (l.map Md.intC)),(1,.int .i64 n),(7,.int .i64 l.length),(8,.int .i64 i)]∧s=σ∧idxOf n l 0=idxOf n (l.drop i) i) l.length ⟨rfl,rfl,rfl⟩ ?_
 rintro i fr s hle ⟨rfl,rfl,hI⟩
 by_cases hlt : i < l.length
 ·obtain ⟨x,hx,_,hdr,hget,htk⟩:=at_nth l i hlt
  have c1 : (i : Int) < l.length:=by omega
  have c2 : (0 : Int)≤i:=by omega
  have w1:=wrapS (i:=i) (by omega)
  rw [hdr,idxOf] at hI
  by_cases e : n=x
  ·rw [if_pos e] at hI
   subst e
   have hI : idxOf n l 0=(i : Int):=hI
   simp only [go_sem,c1,c2,hget,Md.intC,hI,and_self]
  ·rw [if_neg e] at hI
   simp only [go_sem,c1,c2,hget,Md.intC,e,w1]
   exact ⟨hlt,hI⟩
 ·have hi' : i=l.length:=by omega
  subst hi'
  have c1 : ¬ (l.length : Int) < l.length:=by omega
  rw [List.drop_length,idxOf] at hI
  simp only [go_sem,c1,hI,and_self]
theorem hasInt_pc (l : List Int) (n : Int) (hl : l.length < 2 ^ 40) : PC Tryz.prog EE 147 [.tslice (l.map Md.intC),.int .i64 n] (.bool (decide (n∈l))):=by
 refine PC_f fok147 (Nat.le_of_ble_eq_true rfl) fun σ => ?_
 simp only [ic147,go_sem]
 refine call_pc fok216 (indexInt_pc l n hl) ?_
 have e : decide (0≤idxOf n l 0)=decide (n∈l):=by
  by_cases h : n∈l
  ·simp [h,(idxOf_spec n l 0).2 h]
  ·rw [decide_eq_false h,decide_eq_false (fun x => h ((idxOf_spec n l 0).1 x))]
 simp only [go_sem,e,and_self]
/-! ### A set of names -/
def sE (k : Str) : IV × IV:=(.str k,.agg [])
theorem updL_set (l : List Str) (k : Str) : updL 2 (.str k) (.agg []) (l.map sE)=some ((offAdd l k).map sE):=by
 have go : ∀ l : List Str,updL 2 (.str k) (.agg []) (l.map sE)=some ((if k∈l then l else l ++ [k]).map sE):=by
  intro l
  induction l with
  | nil => rfl
  | cons a l ih =>
   simp only [List.map_cons,sE,updL,e_keq2] at ih ⊢
   by_cases h : k=a
   ·subst h; simp [sE]
   ·simp only [h,decide_false,List.mem_cons,false_or] at ih ⊢
    rw [ih]
    split <;> simp [sE]
 exact go l
theorem mupd_set {σ : Store} {mid : Nat} {l : List Str} (h : σ.obj mid=some (.map (l.map sE))) (k : Str) : mapUpdI σ 2 (.map mid) (.str k) (.agg [])=some (σ.put mid (.map ((offAdd l k).map sE))):=by
 simp only [mapUpdI,h,updL_set,Option.map]
theorem offAdd_nd {l : List Str} (h : l.Nodup) (k : Str) : (offAdd l k).Nodup:=by
 unfold offAdd
 split
 ·exact h
 ·rename_i hk
  refine List.nodup_append.2 ⟨h,by simp,fun a ha b hb e => ?_⟩
  cases List.mem_singleton.1 hb
  exact hk (e ▸ ha)
theorem offFold_nd : ∀ (ks : List Str) {l : List Str},l.Nodup→(ks.foldl offAdd l).Nodup
 | [],_,h => h
 | k :: ks,_,h => offFold_nd ks (offAdd_nd h k)
theorem offK_nd (p : Package) : (offK p).Nodup:=offFold_nd _ (offFold_nd _ (by simp))
theorem offered_pc (p : Package) (hp : p.Fit) : PC Tryz.prog EE 146 [.agg p.cs] (.tmap ((offK p).map sE)):=by
 have f1:=hp.prov.1
 have f2:=hp.files.1
 refine PC_e hE fok146 (Nat.le_of_ble_eq_true rfl) (fun a ha => by cases List.mem_singleton.1 ha; exact .agg _ (bnd_pkg p)) ?_
 simp only [ic146,go_sem,pkg_leaf,Package.cs,e_lO1]
 rw [mupd_set (l:=[]) (by simp only [put_obj,if_true]; rfl)]
 simp only [go_sem]
 refine loop_up noT (fun i fr s => fr=[(1,.tptr p.cs),(3,.map 0),(14,deps p.provides),(15,.int .i64 p.provides.length),(16,.int .i64 i)]∧1≤s.next∧s.obj 0=some (.map ((((p.provides.take i).map (·.name)).foldl offAdd [p.name]).map sE))) p.provides.length ⟨rfl,by simp,by simp only [put_obj,if_true]; rfl⟩ ?_
 rintro i fr s hle ⟨rfl,hn,ho⟩
 by_cases hlt : i < p.provides.length
 ·obtain ⟨x,hx,_,hdr,hget,htk⟩:=at_nth p.provides i hlt
  have c1 : (i : Int) < p.provides.length:=by omega
  have c2 : (0 : Int)≤i:=by omega
  have c3 : ¬ 0=s.next:=by omega
  have w1:=wrapS (i:=i) (by omega)
  simp only [go_sem,c1,c2,hget,Dep.cs]
  rw [mupd_set (l:=((p.provides.take i).map (·.name)).foldl offAdd [p.name]) (by simp only [put_obj,c3,if_false]; exact ho)]
  simp only [go_sem,w1]
  refine ⟨hlt,?_⟩
  rw [htk,List.map_append,List.foldl_append]
  first | rfl | (simp only [put_obj,if_true]; rfl)
 have hi' : i=p.provides.length:=by omega
 subst hi'
 have c1 : ¬ (p.provides.length : Int) < p.provides.length:=by omega
 rw [List.take_length] at ho
 simp only [go_sem,c1,Package.cs]
 refine loop_up noT (fun i fr s => fr=[(3,.map 0),(26,strs p.files),(27,.int .i64 p.files.length),(28,.int .i64 i)]∧s.obj 0=some (.map (((p.files.take i).foldl offAdd ((p.provides.map (·.name)).foldl offAdd [p.name])).map sE))) p.files.length ⟨rfl,ho⟩ ?_
 rintro i fr s hle ⟨rfl,ho⟩
 by_cases hlt : i < p.files.length
 ·obtain ⟨x,hx,_,hdr,hget,htk⟩:=at_nth p.files i hlt
  have c1 : (i : Int) < p.files.length:=by omega
  have c2 : (0 : Int)≤i:=by omega
  have w1:=wrapS (i:=i) (by omega)
  simp only [go_sem,c1,c2,hget,strC]
  rw [mupd_set ho]
  simp only [go_sem,w1]
  refine ⟨hlt,?_⟩
  rw [htk,List.foldl_append]
  first | rfl | (simp only [put_obj,if_true]; rfl)
 have hi' : i=p.files.length:=by omega
 subst hi'
 have c1 : ¬ (p.files.length : Int) < p.files.length:=by omega
 rw [List.take_length] at ho
 simp only [go_sem,c1]
 refine .map 0 _ _ _ (Nat.not_lt_zero _) ho rfl (List.Perm.refl _) ⟨?_,.str,fun e he => ?_⟩ (fun i hi => ?_) (fun i hi => ?_)
 ·have : ((offK p).map sE).map (·.1)=(offK p).map IV.str:=by simp [sE]
  rw [this]
  exact List.Pairwise.map _ (fun a b hab e => hab (by cases e; rfl)) (offK_nd p)
 ·obtain ⟨k,_,rfl⟩:=List.mem_map.1 he
  trivial
 ·exact .keep _ (by
   obtain ⟨k,_,e⟩:=List.mem_map.1 (getD_mem (.undef,.undef) hi)
   rw [← e]; exact .str _)
 ·exact .keep _ (by
   obtain ⟨k,_,e⟩:=List.mem_map.1 (getD_mem (.undef,.undef) hi)
   rw [← e]; exact .agg _ fun c hc => by cases hc)
end Go.Id.Tryz
