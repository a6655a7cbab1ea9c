/- MatchEach. Conditions: sizes that fit. -/
import Derived.Test.YtiallonafbejaaaGreatDoorTUQH
import Derived.Test.YtiallonafbejaaaGreatDoorTUPZm
set_option linter.all false
namespace Go.Id.Tryz
open Go Go.Id Go.Proofs Go.Id.Md
set_option maxRecDepth 100000
theorem matchEach_pc (repos : List Repo) (inst : List Package) (d : Dep) (hI : InOK repos inst) (hd : Dep.small d) : PC Tryz.prog EE 5 [reposV repos, pkgsV inst, .agg d.cs] (.bool true) := by
 refine PC_e hE fok5 (Nat.le_of_ble_eq_true rfl) (fun a ha => by
  simp only [List.mem_cons, List.not_mem_nil, or_false] at ha
  rcases ha with rfl | rfl | rfl
  ·exact bnd_repos repos
  ·exact bnd_pkgs inst
  ·exact bnd_depA d) ?_
 have hlarge := large_pc repos inst (by have := hI.r1; omega) (by have := hI.i1; omega) hI.ro hI.po
 have hof := of_pc repos inst hI
 simp only [ic5, go_sem, dep_leaf]
 refine call_pc fok22 works_pc ?_
 simp only [go_sem]
 refine call_pc fok23 hlarge ?_
 cases hlg : decide (3000 ≤ lgL repos (szL inst 3000 0)) with
 | true =>
  simp only [go_sem]
  refine call_pc fok22 works_pc ?_
  simp only [go_sem]
  exact frz_bool _
 | false =>
 simp only [go_sem]
 refine call_pc fok24 hof ?_
 unfold ofM
 cases hn : newM repos inst with
 | inr e =>
  simp only [go_sem]
  exact frz_bool _
 | inl p =>
 have hf := in_fit hI hn
 have hlen : (pkgsOf p).length ≤ 256 := by simp only [pkgsOf, List.length_map]; exact newM_len hn
 have hsm : ∀ x ∈ pkgsOf p, Pkg.small x := fun x hx => (hf x hx).2.1
 have hda : Dep.small (depAny d.name) := ⟨by show (0 : Int) ≤ 0; decide, by show (0 : Int) < 256; decide, by show ([] : Str).length < _; decide, by show ([] : Str).length < _; decide⟩
 have ha := idxProviders_pc (pkgsOf p) d (by omega) hsm hd
 have hb := idxNamed_pc (pkgsOf p) d (by omega) hsm hd
 have hc := idxProviders_pc (pkgsOf p) (depAny d.name) (by omega) hsm hda
 have hfn := idxNamed_pc (pkgsOf p) (depAny d.name) (by omega) hsm hda
 have hdp := depLaw_pc d.name
 have d0 : d.cs.head? = some (.str d.name) := rfl
 simp only [go_sem, dep_len, dep_take, dep_leaf]
 refine callP_of ha ?_
 simp only [go_sem, dep_len, dep_take, dep_leaf]
 refine callP_of hb ?_
 simp only [go_sem, d0]
 refine callP_of hdp ?_
 simp only [go_sem]
 refine callP_of hc ?_
 simp only [go_sem, d0]
 refine callP_of hdp ?_
 simp only [go_sem]
 refine callP_of hfn ?_
 simp only [go_sem]
 have hup := numsOf_up (fun x => provides x d) (pkgsOf p)
 have hAl := numsOf_len (fun x => provides x d) (pkgsOf p)
 have hmem : ∀ (q : Package → Bool) (n : Nat) (hn : n < (pkgsOf p).length), decide ((n : Int) ∈ numsOf q (pkgsOf p)) = q (pkgsOf p)[n] := by
  intro q n hn
  rw [← getD_at _ n hn]
  cases hq : q ((pkgsOf p).getD n default) with
  | true => exact decide_eq_true (numsOf_mem.2 ⟨n, rfl, hn, hq⟩)
  | false =>
   refine decide_eq_false fun h => ?_
   obtain ⟨m, e, _, h2⟩ := numsOf_mem.1 h
   have : m = n := by omega
   subst this
   rw [hq] at h2; cases h2
 have hBl := numsOf_len (fun x => named x d) (pkgsOf p)
 have hCl := numsOf_len (fun x => provides x (depAny d.name)) (pkgsOf p)
 have hFl := numsOf_len (fun x => named x (depAny d.name)) (pkgsOf p)
 have mA := hmem (fun x => provides x d)
 have mB := hmem (fun x => named x d)
 have mC := hmem (fun x => provides x (depAny d.name))
 have mF := hmem (fun x => named x (depAny d.name))
 have hcount : (providersM (pkgsOf p) d).length = ((List.range (pkgsOf p).length).filter fun n => provides ((pkgsOf p).getD n default) d).length := by
  unfold providersM numsOf; rw [List.length_map]
 change (providersM (pkgsOf p) d).Pairwise (· < ·) at hup
 change (providersM (pkgsOf p) d).length ≤ _ at hAl
 change (namedM (pkgsOf p) d).length ≤ _ at hBl
 change (providersM (pkgsOf p) (depAny d.name)).length ≤ _ at hCl
 change (namedM (pkgsOf p) (depAny d.name)).length ≤ _ at hFl
 change ∀ (n : Nat) (hn : n < (pkgsOf p).length), decide ((n : Int) ∈ providersM (pkgsOf p) d) = provides (pkgsOf p)[n] d at mA
 change ∀ (n : Nat) (hn : n < (pkgsOf p).length), decide ((n : Int) ∈ namedM (pkgsOf p) d) = named (pkgsOf p)[n] d at mB
 change ∀ (n : Nat) (hn : n < (pkgsOf p).length), decide ((n : Int) ∈ providersM (pkgsOf p) (depAny d.name)) = provides (pkgsOf p)[n] (depAny d.name) at mC
 change ∀ (n : Nat) (hn : n < (pkgsOf p).length), decide ((n : Int) ∈ namedM (pkgsOf p) (depAny d.name)) = named (pkgsOf p)[n] (depAny d.name) at mF
 clear ha hb hc hfn hdp hmem
 generalize providersM (pkgsOf p) d = A at *
 generalize namedM (pkgsOf p) d = B at *
 generalize providersM (pkgsOf p) (depAny d.name) = C at *
 generalize namedM (pkgsOf p) (depAny d.name) = F at *
 refine loop_up noT (fun i fr s => fr = [(5, .tptr d.cs), (8, p.v), (10, .tslice (A.map Md.intC)), (11, .tslice (B.map Md.intC)), (12, .tslice (C.map Md.intC)), (13, .tslice (F.map Md.intC)), (14, .int .i64 ((i + 1 : Nat) : Int))]) A.length rfl ?_
 rintro i fr s hle rfl
 by_cases hlt : i + 1 < A.length
 ·have c1 : ((i + 1 : Nat) : Int) < A.length := by omega
  have c2 : (0 : Int) ≤ ((i + 1 : Nat) : Int) := by omega
  have c3 : IntKind.i64.wrap (((i + 1 : Nat) : Int) - 1) = (i : Int) := by rw [wrap64 (by omega) (by omega)]; omega
  have c4 : (0 : Int) ≤ (i : Int) := by omega
  have c5 : (i : Int) < A.length := by omega
  have w1 := wrapS (i := i + 1) (by omega)
  have g1 : (A.map Md.intC).getD (i + 1) [] = [.int .i64 A[i + 1]] := by simp [List.getD_eq_getElem?_getD, hlt, Md.intC]
  have g2 : (A.map Md.intC).getD i [] = [.int .i64 (A[i]'(by omega))] := by simp [List.getD_eq_getElem?_getD, show i < A.length by omega, Md.intC]
  have c6 : ¬ A[i + 1] ≤ A[i]'(by omega) := by
   have := List.pairwise_iff_getElem.1 hup i (i + 1) (by omega) hlt (by omega)
   omega
  simp only [go_sem, c1, c2, c3, c4, c5, g1, g2, c6, w1]
  omega
 ·have c1 : ¬ ((i + 1 : Nat) : Int) < A.length := by omega
  simp only [go_sem, c1]
  refine loop_up noT (fun n fr s => fr = [(5, .tptr d.cs), (8, p.v), (10, .tslice (A.map Md.intC)), (11, .tslice (B.map Md.intC)), (12, .tslice (C.map Md.intC)), (13, .tslice (F.map Md.intC)), (15, .int .i64 (((List.range n).filter fun n => provides ((pkgsOf p).getD n default) d).length : Nat)), (16, .int .i64 (n : Int))]) (pkgsOf p).length rfl ?_
  rintro n fr s hle2 rfl
  have hrl : p.rows.length = (pkgsOf p).length := by simp [pkgsOf]
  have hfl : ((List.range n).filter fun n => provides ((pkgsOf p).getD n default) d).length ≤ n := Nat.le_trans (List.length_filter_le _ _) (by simp)
  have hcnt := poolCount_pc p
  rw [hrl] at hcnt
  by_cases hlt2 : n < (pkgsOf p).length
  ·have d1 : (n : Int) < (pkgsOf p).length := by omega
   have hnr : n < p.rows.length := by omega
   have hq : p.rows[n].pkg = (pkgsOf p)[n] := by simp [pkgsOf]
   have hfq := hf _ (List.getElem_mem hlt2)
   have hpk := poolPackage_pc p n hnr (by rw [hq]; exact hfq.1)
   rw [hq] at hpk
   have kA := has_pc A n (by omega)
   have kB := has_pc B n (by omega)
   have kC := has_pc C n (by omega)
   have kF := has_pc F n (by omega)
   have hP := provides_pc (pkgsOf p)[n] d hfq.2.1 hd
   have hN := named_pc (pkgsOf p)[n] d hfq.2.1 hd
   rw [mA n hlt2] at kA
   rw [mB n hlt2] at kB
   rw [mC n hlt2] at kC
   rw [mF n hlt2] at kF
   have i1 : named (pkgsOf p)[n] d = true → provides (pkgsOf p)[n] d = true := named_provides
   have i2 : provides (pkgsOf p)[n] d = true → provides (pkgsOf p)[n] (depAny d.name) = true := provides_any _
   have i3 : named (pkgsOf p)[n] d = true → named (pkgsOf p)[n] (depAny d.name) = true := named_any _
   have hsucc : ((List.range (n + 1)).filter fun n => provides ((pkgsOf p).getD n default) d).length = ((List.range n).filter fun n => provides ((pkgsOf p).getD n default) d).length + if provides (pkgsOf p)[n] d = true then 1 else 0 := by
    rw [List.range_succ, List.filter_append, List.length_append]
    congr 1
    simp only [List.filter_cons, List.filter_nil, getD_at _ n hlt2]
    split <;> rfl
   have w1 := wrapS (i := n) (by omega)
   have w2 := wrapS (i := ((List.range n).filter fun n => provides ((pkgsOf p).getD n default) d).length) (by omega)
   simp only [go_sem]
   refine call_pc fok17 hcnt ?_
   simp only [go_sem, d1]
   refine call_pc fok19 hpk ?_
   generalize (pkgsOf p)[n] = q at *
   generalize ((List.range n).filter fun n => provides ((pkgsOf p).getD n default) d).length = m at *
   have q1 : eqvI [0] false true (.bool true) (.bool true) = some (.bool false) := rfl
   have q2 : eqvI [0] false true (.bool false) (.bool false) = some (.bool false) := rfl
   cases hNb : named q d with
   | true =>
    have hPb := i1 hNb
    have hCb := i2 hPb
    have hFb := i3 hNb
    rw [hNb] at kB hN
    rw [hPb] at kA hP hsucc
    rw [hCb] at kC
    rw [hFb] at kF
    rw [if_pos rfl] at hsucc
    simp only [go_sem, pkg_lenA, pkg_takeA, pkg_leafA, dep_len, dep_take, dep_leaf, q1, q2, w1, w2]
    repeat
     first
      | refine callP_of kA ?_
      | refine callP_of kB ?_
      | refine callP_of kC ?_
      | refine callP_of kF ?_
      | refine callP_of hP ?_
      | refine callP_of hN ?_
     simp only [go_sem, pkg_lenA, pkg_takeA, pkg_leafA, dep_len, dep_take, dep_leaf, q1, q2, w1, w2]
    refine ⟨hlt2, ?_⟩
    rw [List.range_succ] at hsucc
    rw [hsucc]
    try rfl
   | false =>
   rw [hNb] at kB hN
   cases hPb : provides q d with
   | true =>
    have hCb := i2 hPb
    rw [hPb] at kA hP hsucc
    rw [hCb] at kC
    rw [if_pos rfl] at hsucc
    simp only [go_sem, pkg_lenA, pkg_takeA, pkg_leafA, dep_len, dep_take, dep_leaf, q1, q2, w1, w2]
    repeat
     first
      | refine callP_of kA ?_
      | refine callP_of kB ?_
      | refine callP_of kC ?_
      | refine callP_of kF ?_
      | refine callP_of hP ?_
      | refine callP_of hN ?_
     simp only [go_sem, pkg_lenA, pkg_takeA, pkg_leafA, dep_len, dep_take, dep_leaf, q1, q2, w1, w2]
    refine ⟨hlt2, ?_⟩
    rw [List.range_succ] at hsucc
    rw [hsucc]
    try rfl
   | false =>
    rw [hPb] at kA hP hsucc
    rw [if_neg (by simp)] at hsucc
    simp only [go_sem, pkg_lenA, pkg_takeA, pkg_leafA, dep_len, dep_take, dep_leaf, q1, q2, w1, w2]
    repeat
     first
      | refine callP_of kA ?_
      | refine callP_of kB ?_
      | refine callP_of kC ?_
      | refine callP_of kF ?_
      | refine callP_of hP ?_
      | refine callP_of hN ?_
     simp only [go_sem, pkg_lenA, pkg_takeA, pkg_leafA, dep_len, dep_take, dep_leaf, q1, q2, w1, w2]
    refine ⟨hlt2, ?_⟩
    rw [List.range_succ] at hsucc
    rw [hsucc]
    try rfl
  ·have hi' : n = (pkgsOf p).length := by omega
   subst hi'
   have d1 : ¬ ((pkgsOf p).length : Int) < (pkgsOf p).length := by omega
   simp only [go_sem]
   refine call_pc fok17 hcnt ?_
   simp only [go_sem, d1, ← hcount, decide_true]
   exact frz_bool _
end Go.Id.Tryz
