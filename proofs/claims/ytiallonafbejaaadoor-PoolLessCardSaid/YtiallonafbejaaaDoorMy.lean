/- Pools without their last package,or repository: in plain words. Conditions: none; no program in sight. -/
import Derived.Test.YtiallonafbejaaaDoorMm
set_option linter.all false
namespace Go.Id.Md
open Go Go.Id
structure OkM (repos : List Repo) (inst : List Package) : Prop where
 n : repos.length≤16
 all : inst.length+sumLen repos≤256
 inst : inst.all pkgMay=true
 repos : ∀ r∈repos,0≤r.priority∧r.priority≤1024∧r.packages.all pkgMay=true
theorem reposFrom_ok : ∀ (rs : List Repo) (i : Nat) (st : List PRow × Nms),(∀ r∈rs,0≤r.priority∧r.priority≤1024∧r.packages.all pkgMay=true)→∃ out,reposFrom i rs st=some out:=by
 intro rs
 induction rs with
 | nil => intro i st _; exact ⟨st,rfl⟩
 | cons r rs ih =>
  intro i st h
  obtain ⟨h1,h2,h3⟩:=h r List.mem_cons_self
  simp only [reposFrom]
  rw [if_neg (by rw [h3]; simp; omega)]
  exact ih _ _ fun x hx => h x (List.mem_cons_of_mem _ hx)
theorem reposFrom_prio : ∀ (rs : List Repo) (i : Nat) (st out : List PRow × Nms),reposFrom i rs st=some out→∀ r∈rs,0≤r.priority∧r.priority≤1024∧r.packages.all pkgMay=true:=by
 intro rs
 induction rs with
 | nil => intro i st out _ r hr; cases hr
 | cons x xs ih =>
  intro i st out h r hr
  simp only [reposFrom] at h
  split at h
  ·cases h
  ·rename_i hc
   rcases List.mem_cons.1 hr with rfl | hr
   ·refine ⟨by omega,by omega,?_⟩
    cases hb : r.packages.all pkgMay with
    | true => rfl
    | false => exact absurd (.inr (.inr hb)) hc
   ·exact ih _ _ _ h r hr
theorem OkM.new {repos : List Repo} {inst : List Package} (h : OkM repos inst) : ∃ p,newM repos inst=.inl p:=by
 obtain ⟨⟨rows,nm⟩,ho⟩:=reposFrom_ok repos 0 (rowsOf inst (-1) 1025,nmAll [] 0 inst) h.repos
 unfold newM
 have:=h.n
 have:=h.all
 rw [if_neg (by omega),if_neg (by rw [h.inst]; simp),ho]
 exact ⟨_,rfl⟩
theorem newM_okM {repos : List Repo} {inst : List Package} {p : Pool} (h : newM repos inst=.inl p) : OkM repos inst:=by
 obtain ⟨h1,h2,h3,_⟩:=newM_parts h
 refine ⟨h1,h2,h3,?_⟩
 unfold newM at h
 split at h
 ·cases h
 split at h
 ·cases h
 split at h
 ·rename_i rows nm hr
  exact reposFrom_prio _ _ _ _ hr
 ·cases h
theorem reposRows_app : ∀ (a b : List Repo) (i : Nat),reposRows i (a ++ b)=reposRows i a ++ reposRows (i+a.length) b:=by
 intro a
 induction a with
 | nil => intro b i; rfl
 | cons x a ih =>
  intro b i
  simp only [List.cons_append,reposRows,ih,List.append_assoc,List.length_cons]
  congr 3
  omega
theorem sumLen_app (a b : List Repo) : sumLen (a ++ b)=sumLen a+sumLen b:=by simp [sumLen]
theorem OkM.less {a : List Repo} {l : Repo} {inst : List Package} (h : OkM (a ++ [l]) inst) : OkM a inst where
 n:=by have:=h.n; rw [List.length_append] at this; omega
 all:=by have:=h.all; rw [sumLen_app] at this; omega
 inst:=h.inst
 repos:=fun r hr => h.repos r (List.mem_append_left _ hr)
theorem OkM.last {a : List Repo} {l : Repo} {inst : List Package} {ps : List Package} (h : OkM (a ++ [l]) inst) (hp : ∀ p∈ps,p∈l.packages) (hl : ps.length≤l.packages.length) : OkM (a ++ [⟨l.priority,ps⟩]) inst where
 n:=by have:=h.n; rw [List.length_append] at this ⊢; exact this
 all:=by
  have:=h.all
  rw [sumLen_app] at this ⊢
  have e : sumLen [l]=l.packages.length:=by simp [sumLen]
  have e2 : sumLen [⟨l.priority,ps⟩]=ps.length:=by simp [sumLen]
  omega
 inst:=h.inst
 repos:=fun r hr => by
  rcases List.mem_append.1 hr with hr | hr
  ·exact h.repos r (List.mem_append_left _ hr)
  ·rw [List.mem_singleton] at hr
   subst hr
   obtain ⟨h1,h2,h3⟩:=h.repos l (by simp)
   exact ⟨h1,h2,List.all_eq_true.2 fun p hp' => List.all_eq_true.1 h3 p (hp p hp')⟩
theorem rows_less {a : List Repo} {l : Repo} {inst : List Package} {p q : Pool} (h : newM (a ++ [l]) inst=.inl p) (h2 : newM a inst=.inl q) : p.rows=q.rows ++ rowsOf l.packages a.length l.priority:=by
 rw [(newM_inl h).1,(newM_inl h2).1,reposRows_app,List.append_assoc]
 simp [reposRows]
end Go.Id.Md
