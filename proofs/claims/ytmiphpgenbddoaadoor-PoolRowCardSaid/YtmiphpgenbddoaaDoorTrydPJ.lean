/- PoolRow: numbers below Installed are the installed ones, in their row; the others those of the repositories. Conditions: sizes that fit. -/
import Derived.Test.YtmiphpgenbddoaaDoorTrydPH
import Derived.Test.YtmiphpgenbddoaaDoorTrydPI
namespace Go.Id.Tryd
open Go Go.Id Go.Proofs Go.Id.Md
set_option linter.unusedSimpArgs false
set_option linter.unusedVariables false
theorem sumLen_le {repos : List Repo} {m : Nat} (h : ∀ r ∈ repos, r.packages.length ≤ m) : sumLen repos ≤ repos.length * m := by
  induction repos with
  | nil => simp [sumLen]
  | cons r rs ih =>
    have h1 := h r (List.mem_cons_self ..)
    have h2 := ih fun x hx => h x (List.mem_cons_of_mem _ hx)
    simp only [sumLen, List.map_cons, List.sum_cons, List.length_cons, Nat.add_mul] at h2 ⊢
    omega
theorem poolRow_pc (repos : List Repo) (inst : List Package) (h1 : repos.length < 2 ^ 62) (h2 : inst.length < 2 ^ 62) (hr : ∀ r ∈ repos, Repo.Ok r) (hi : ∀ p ∈ inst, p.Ok) : PC Tryd.prog EE 3 [reposV repos, pkgsV inst] (.bool true) := by
  refine PC_e hE fok3 (Nat.le_of_ble_eq_true rfl) (two_mem (bnd_repos _) (bnd_pkgs _)) ?_
  simp only [ic3, go_sem, reduceCtorEq, Int.reduceLT, Int.reduceLE, Int.reduceToNat, Int.reduceAdd, Nat.reduceEqDiff, Nat.reduceAdd, Nat.reduceMul, Nat.reduceLT, Nat.reduceLeDiff, decide_true, decide_false, ↓reduceIte]
  refine callP_of (wide_pc repos inst h1 h2 hr hi) ?_
  cases hw : wideM repos inst with
  | true =>
    simp only [go_sem, reduceCtorEq, Int.reduceLT, Int.reduceLE, Int.reduceToNat, Int.reduceAdd, Nat.reduceEqDiff, Nat.reduceAdd, Nat.reduceMul, Nat.reduceLT, Nat.reduceLeDiff, decide_true, decide_false, ↓reduceIte]
    refine callP_of awake_pc ?_
    simp only [go_sem, reduceCtorEq, Int.reduceLT, Int.reduceLE, Int.reduceToNat, Int.reduceAdd, Nat.reduceEqDiff, Nat.reduceAdd, Nat.reduceMul, Nat.reduceLT, Nat.reduceLeDiff, decide_true, decide_false, ↓reduceIte]
    exact frz_bool _
  | false =>
  obtain ⟨l1, l2, fi, fr⟩ := wide_fit hr hi hw
  simp only [go_sem, reduceCtorEq, Int.reduceLT, Int.reduceLE, Int.reduceToNat, Int.reduceAdd, Nat.reduceEqDiff, Nat.reduceAdd, Nat.reduceMul, Nat.reduceLT, Nat.reduceLeDiff, decide_true, decide_false, ↓reduceIte]
  refine callP_of awake_pc ?_
  simp only [go_sem, reduceCtorEq, Int.reduceLT, Int.reduceLE, Int.reduceToNat, Int.reduceAdd, Nat.reduceEqDiff, Nat.reduceAdd, Nat.reduceMul, Nat.reduceLT, Nat.reduceLeDiff, decide_true, decide_false, ↓reduceIte]
  have hs := sumLen_le (m := 80) fun r hr' => (fr r hr').1
  refine callP_of (poolNew_pc repos inst (by omega) (by omega) (by omega) (fun r hr' => ⟨by have := (fr r hr').1; omega, (fr r hr').2⟩) fi) ?_
  cases hn : newM repos inst with
  | inr e =>
    rcases newM_inr hn with rfl | rfl
    · simp only [go_sem, reduceCtorEq, Int.reduceLT, Int.reduceLE, Int.reduceToNat, Int.reduceAdd, Nat.reduceEqDiff, Nat.reduceAdd, Nat.reduceMul, Nat.reduceLT, Nat.reduceLeDiff, decide_true, decide_false, ↓reduceIte, newV]
      exact frz_bool _
    · simp only [go_sem, reduceCtorEq, Int.reduceLT, Int.reduceLE, Int.reduceToNat, Int.reduceAdd, Nat.reduceEqDiff, Nat.reduceAdd, Nat.reduceMul, Nat.reduceLT, Nat.reduceLeDiff, decide_true, decide_false, ↓reduceIte, newV]
      exact frz_bool _
  | inl p =>
  obtain ⟨hrows, hinst⟩ := newM_inl hn
  have hdr0 : p.rows.drop 0 = rowsOf (inst.drop 0) (-1) 1025 ++ reposRows 0 repos := hrows
  simp only [go_sem, reduceCtorEq, Int.reduceLT, Int.reduceLE, Int.reduceToNat, Int.reduceAdd, Nat.reduceEqDiff, Nat.reduceAdd, Nat.reduceMul, Nat.reduceLT, Nat.reduceLeDiff, decide_true, decide_false, ↓reduceIte, newV]
  refine loop_up noT (fun i fr s => fr = [(0, reposV repos), (1, pkgsV inst), (5, p.v), (7, .int .i64 i), (8, .int .i64 i)] ∧ p.rows.drop i = rowsOf (inst.drop i) (-1) 1025 ++ reposRows 0 repos) inst.length ⟨rfl, hdr0⟩ ?_
  rintro i fr s hle ⟨rfl, hd⟩
  by_cases hlt : i < inst.length
  · obtain ⟨x, hx, hxi, hdr, hget, htk⟩ := at_nth inst i hlt
    have d1 : (i : Int) < inst.length := by omega
    have d2 : (0 : Int) ≤ i := by omega
    have w1 := wrapS (i := i) (by omega)
    rw [hdr, rowsOf_cons, List.cons_append] at hd
    obtain ⟨hlt', he, hd'⟩ := drop_head hd
    have fx : x.Fit := fi x hx
    have hP := poolPackage_pc p i hlt' (by rw [he]; exact fx)
    have hR := poolRepo_pc p i hlt'
    have hQ := poolPriority_pc p i hlt'
    rw [he] at hP hR hQ
    simp only [go_sem, reduceCtorEq, Int.reduceLT, Int.reduceLE, Int.reduceToNat, Int.reduceAdd, Nat.reduceEqDiff, Nat.reduceAdd, Nat.reduceMul, Nat.reduceLT, Nat.reduceLeDiff, decide_true, decide_false, ↓reduceIte, d1]
    refine callP_of hP ?_
    simp only [go_sem, reduceCtorEq, Int.reduceLT, Int.reduceLE, Int.reduceToNat, Int.reduceAdd, Nat.reduceEqDiff, Nat.reduceAdd, Nat.reduceMul, Nat.reduceLT, Nat.reduceLeDiff, decide_true, decide_false, ↓reduceIte, d2, d1, hget, pkg_len, pkg_take, pkg_leaf]
    refine callP_of (refSame_pc x x fx fx) ?_
    simp only [go_sem, reduceCtorEq, Int.reduceLT, Int.reduceLE, Int.reduceToNat, Int.reduceAdd, Nat.reduceEqDiff, Nat.reduceAdd, Nat.reduceMul, Nat.reduceLT, Nat.reduceLeDiff, decide_true, decide_false, ↓reduceIte, pkgSame_refl]
    refine callP_of hR ?_
    simp only [go_sem, reduceCtorEq, Int.reduceLT, Int.reduceLE, Int.reduceToNat, Int.reduceAdd, Nat.reduceEqDiff, Nat.reduceAdd, Nat.reduceMul, Nat.reduceLT, Nat.reduceLeDiff, decide_true, decide_false, ↓reduceIte]
    refine callP_of hQ ?_
    simp only [go_sem, reduceCtorEq, Int.reduceLT, Int.reduceLE, Int.reduceToNat, Int.reduceAdd, Nat.reduceEqDiff, Nat.reduceAdd, Nat.reduceMul, Nat.reduceLT, Nat.reduceLeDiff, decide_true, decide_false, ↓reduceIte, w1]
    exact ⟨hlt, hd'⟩
  have hi' : i = inst.length := by omega
  subst hi'
  have d1 : ¬ (inst.length : Int) < inst.length := by omega
  rw [List.drop_length] at hd
  have hd : p.rows.drop inst.length = reposRows 0 repos := hd
  have hle0 : inst.length ≤ p.rows.length := by rw [hrows, List.length_append, rowsOf_len]; omega
  simp only [go_sem, reduceCtorEq, Int.reduceLT, Int.reduceLE, Int.reduceToNat, Int.reduceAdd, Nat.reduceEqDiff, Nat.reduceAdd, Nat.reduceMul, Nat.reduceLT, Nat.reduceLeDiff, decide_true, decide_false, ↓reduceIte, d1]
  refine loop_up noT (fun i fr s => ∃ n : Nat, fr = [(0, reposV repos), (1, pkgsV inst), (5, p.v), (7, .int .i64 n), (11, .int .i64 i)] ∧ n ≤ p.rows.length ∧ n + sumLen (repos.drop i) = inst.length + sumLen repos ∧ p.rows.drop n = reposRows i (repos.drop i)) repos.length ⟨inst.length, rfl, hle0, rfl, hd⟩ ?_
  rintro i fr s hle2 ⟨n, rfl, hnl, hns, hd⟩
  by_cases hlt : i < repos.length
  · obtain ⟨r, hr', hri, hdr, hget, htk⟩ := at_nth repos i hlt
    have d3 : (i : Int) < repos.length := by omega
    have d4 : (0 : Int) ≤ i := by omega
    have w1 := wrapS (i := i) (by omega)
    rw [sum_drop repos i r hdr] at hns
    rw [hdr] at hd
    simp only [reposRows] at hd
    simp only [go_sem, reduceCtorEq, Int.reduceLT, Int.reduceLE, Int.reduceToNat, Int.reduceAdd, Nat.reduceEqDiff, Nat.reduceAdd, Nat.reduceMul, Nat.reduceLT, Nat.reduceLeDiff, decide_true, decide_false, ↓reduceIte, d3]
    refine loop_up noT (fun k fr s => fr = [(0, reposV repos), (1, pkgsV inst), (5, p.v), (7, .int .i64 (n + k : Nat)), (11, .int .i64 i), (12, .int .i64 k)] ∧ n + k ≤ p.rows.length ∧ p.rows.drop (n + k) = rowsOf (r.packages.drop k) i r.priority ++ reposRows (i + 1) (repos.drop (i + 1))) r.packages.length ⟨rfl, hnl, hd⟩ ?_
    rintro k fr s hlek ⟨rfl, hnk, hd⟩
    by_cases hkl : k < r.packages.length
    · obtain ⟨x, hx, hxi, hdr3, hget3, htk3⟩ := at_nth r.packages k hkl
      have d5 : (k : Int) < r.packages.length := by omega
      have d6 : (0 : Int) ≤ k := by omega
      have w3 := wrapS (i := k) (by have := (fr r hr').1; omega)
      have w4 := wrapS (i := n + k) (by omega)
      rw [hdr3, rowsOf_cons, List.cons_append] at hd
      obtain ⟨hlt', he, hd'⟩ := drop_head hd
      have fx : x.Fit := (fr r hr').2 x hx
      have hP := poolPackage_pc p (n + k) hlt' (by rw [he]; exact fx)
      have hR := poolRepo_pc p (n + k) hlt'
      have hQ := poolPriority_pc p (n + k) hlt'
      rw [he] at hP hR hQ
      simp only [go_sem, reduceCtorEq, Int.reduceLT, Int.reduceLE, Int.reduceToNat, Int.reduceAdd, Nat.reduceEqDiff, Nat.reduceAdd, Nat.reduceMul, Nat.reduceLT, Nat.reduceLeDiff, decide_true, decide_false, ↓reduceIte, d3, d4, d5, hget, repo_len, Repo.cs]
      refine callP_of hP ?_
      simp only [go_sem, reduceCtorEq, Int.reduceLT, Int.reduceLE, Int.reduceToNat, Int.reduceAdd, Nat.reduceEqDiff, Nat.reduceAdd, Nat.reduceMul, Nat.reduceLT, Nat.reduceLeDiff, decide_true, decide_false, ↓reduceIte, d3, d4, d5, d6, hget, hget3, repo_len, Repo.cs, pkg_len, pkg_take, pkg_leaf]
      refine callP_of (refSame_pc x x fx fx) ?_
      simp only [go_sem, reduceCtorEq, Int.reduceLT, Int.reduceLE, Int.reduceToNat, Int.reduceAdd, Nat.reduceEqDiff, Nat.reduceAdd, Nat.reduceMul, Nat.reduceLT, Nat.reduceLeDiff, decide_true, decide_false, ↓reduceIte, pkgSame_refl]
      refine callP_of hR ?_
      simp only [go_sem, reduceCtorEq, Int.reduceLT, Int.reduceLE, Int.reduceToNat, Int.reduceAdd, Nat.reduceEqDiff, Nat.reduceAdd, Nat.reduceMul, Nat.reduceLT, Nat.reduceLeDiff, decide_true, decide_false, ↓reduceIte]
      refine callP_of hQ ?_
      simp only [go_sem, reduceCtorEq, Int.reduceLT, Int.reduceLE, Int.reduceToNat, Int.reduceAdd, Nat.reduceEqDiff, Nat.reduceAdd, Nat.reduceMul, Nat.reduceLT, Nat.reduceLeDiff, decide_true, decide_false, ↓reduceIte, d3, d4, hget, repo_len, Repo.cs, w3, w4]
      exact ⟨hkl, rfl, hlt', hd'⟩
    · have hk' : k = r.packages.length := by omega
      subst hk'
      have d5 : ¬ (r.packages.length : Int) < r.packages.length := by omega
      rw [List.drop_length] at hd
      simp only [go_sem, reduceCtorEq, Int.reduceLT, Int.reduceLE, Int.reduceToNat, Int.reduceAdd, Nat.reduceEqDiff, Nat.reduceAdd, Nat.reduceMul, Nat.reduceLT, Nat.reduceLeDiff, decide_true, decide_false, ↓reduceIte, d3, d4, d5, hget, repo_len, Repo.cs, w1]
      exact ⟨hlt, n + r.packages.length, rfl, hnk, by omega, hd⟩
  have hi' : i = repos.length := by omega
  subst hi'
  have d3 : ¬ (repos.length : Int) < repos.length := by omega
  rw [List.drop_length] at hd
  have hnn : n = p.rows.length := by
    have := congrArg List.length hd
    rw [List.length_drop] at this
    simp only [reposRows, List.length_nil] at this
    omega
  subst hnn
  simp only [go_sem, reduceCtorEq, Int.reduceLT, Int.reduceLE, Int.reduceToNat, Int.reduceAdd, Nat.reduceEqDiff, Nat.reduceAdd, Nat.reduceMul, Nat.reduceLT, Nat.reduceLeDiff, decide_true, decide_false, ↓reduceIte, d3]
  refine callP_of (poolCount_pc p) ?_
  simp only [go_sem, reduceCtorEq, Int.reduceLT, Int.reduceLE, Int.reduceToNat, Int.reduceAdd, Nat.reduceEqDiff, Nat.reduceAdd, Nat.reduceMul, Nat.reduceLT, Nat.reduceLeDiff, decide_true, decide_false, ↓reduceIte]
  refine callP_of (poolInstalled_pc p) ?_
  simp only [go_sem, reduceCtorEq, Int.reduceLT, Int.reduceLE, Int.reduceToNat, Int.reduceAdd, Nat.reduceEqDiff, Nat.reduceAdd, Nat.reduceMul, Nat.reduceLT, Nat.reduceLeDiff, decide_true, decide_false, ↓reduceIte, hinst]
  exact frz_bool _
end Go.Id.Tryd
