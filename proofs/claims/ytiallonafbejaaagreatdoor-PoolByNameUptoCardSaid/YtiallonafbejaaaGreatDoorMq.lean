/- The names of a pool: each number stands in the row of its name. Conditions: none; no program in sight. -/
import Derived.Test.YtiallonafbejaaaGreatDoorMm
set_option linter.all false
namespace Go.Id.Md
open Go Go.Id
structure NmIs (nm : Nms) (l : List Package) : Prop where
 kn : KN nm
 look : ∀ k,nmLook nm k=numsOf (fun p => decide (p.name=k)) l
 ne : ∀ k∈nm.map (·.1),nmLook nm k≠[]
 len : nm.length≤l.length
theorem nmAdd_len (nm : Nms) (k : Str) (n : Int) : (nmAdd nm k n).length≤nm.length+1:=by
 induction nm with
 | nil => simp [nmAdd]
 | cons t ts ih =>
  simp only [nmAdd]
  split
  ·simp
  ·simp only [List.length_cons]; omega
theorem nmLook_has (nm : Nms) (k : Str) (h : nmLook nm k≠[]) : k∈nm.map (·.1):=by
 induction nm with
 | nil => exact absurd rfl h
 | cons t ts ih =>
  simp only [nmLook] at h
  by_cases e : k=t.1
  ·rw [List.map_cons,e]; exact List.mem_cons_self ..
  ·rw [if_neg e] at h
   exact List.mem_cons_of_mem _ (ih h)
theorem NmIs.add {nm : Nms} {l : List Package} (h : NmIs nm l) (p : Package) : NmIs (nmAdd nm p.name (l.length : Nat)) (l ++ [p]) where
 kn:=nmAdd_kn h.kn
 look:=fun k => by
  rw [nmLook_add h.kn,numsOf_snoc]
  by_cases e : k=p.name
  ·rw [if_pos e,h.look,e]; simp
  ·have e' : ¬ p.name=k:=fun h => e h.symm
   rw [if_neg e,h.look]; simp [e']
 ne:=fun k hk => by
  rw [nmLook_add h.kn]
  by_cases e : k=p.name
  ·rw [if_pos e]; simp
  ·rw [if_neg e]
   rcases nmAdd_keys k hk with e2 | e2
   ·exact absurd e2 e
   ·exact h.ne k e2
 len:=by
  have h1:=nmAdd_len nm p.name (l.length : Nat)
  have h2:=h.len
  rw [List.length_append,List.length_singleton]; omega
theorem NmIs.all : ∀ (ps : List Package) {nm : Nms} {l : List Package},NmIs nm l→NmIs (nmAll nm l.length ps) (l ++ ps):=by
 intro ps
 induction ps with
 | nil => intro nm l h; simpa [nmAll] using h
 | cons p ps ih =>
  intro nm l h
  have:=ih (h.add p)
  rw [List.length_append,List.length_singleton,List.append_assoc] at this
  exact this
theorem rowsOf_pkgs (l : List Package) (a b : Int) : (rowsOf l a b).map (·.pkg)=l:=by
 unfold rowsOf; rw [List.map_map]; exact (List.map_congr_left fun _ _ => rfl).trans (List.map_id l)
theorem reposFrom_nm : ∀ (rs : List Repo) (i : Nat) (rows rows' : List PRow) (nm nm' : Nms),NmIs nm (rows.map (·.pkg))→reposFrom i rs (rows,nm)=some (rows',nm')→NmIs nm' (rows'.map (·.pkg)):=by
 intro rs
 induction rs with
 | nil => intro i rows rows' nm nm' h e; simp only [reposFrom,Option.some.injEq,Prod.mk.injEq] at e; obtain ⟨rfl,rfl⟩:=e; exact h
 | cons r rs ih =>
  intro i rows rows' nm nm' h e
  simp only [reposFrom] at e
  split at e
  ·cases e
  ·refine ih _ _ _ _ _ ?_ e
   have:=NmIs.all r.packages h
   rw [List.map_append,rowsOf_pkgs]
   simpa using this
theorem newM_nm {repos : List Repo} {inst : List Package} {p : Pool} (h : newM repos inst=.inl p) : NmIs p.nm (p.rows.map (·.pkg)):=by
 unfold newM at h
 split at h
 ·cases h
 split at h
 ·cases h
 split at h
 ·rename_i rows nm hr
  cases h
  refine reposFrom_nm repos 0 _ _ _ _ ?_ hr
  rw [rowsOf_pkgs]
  have h0 : NmIs [] []:=⟨List.nodup_nil,fun k => rfl,fun k hk => (by cases hk),Nat.le_refl _⟩
  exact NmIs.all inst h0
 ·cases h
end Go.Id.Md
