/- Versions' parts, told. Conditions: sizes that fit. -/
import Derived.Test.YtiallonafbejaaaGreatDoorTUQB
import Derived.Test.YtiallonafbejaaaGreatDoorMv
import Derived.Test.YtiallonafbejaaaGreatDoorFwZ
set_option linter.all false
namespace Go.Id.Tryz
open Go Go.Id Go.Proofs Go.Id.Md
set_option maxRecDepth 100000
def evP (p : Part) : List IV := [.agg (Part.cs p)]
theorem ver_tell (s : Str) (hs : s.length < 2 ^ 62) : Teller Tryz.prog EE (.func (.func 307) [] [.tptr [.str s]]) ((vparts s).map evP) (fun _ => True) := by
 intro yid I S σ hown hstab hy hi
 refine ⟨fok307.1, ?_⟩
 refine C_f fok307 (Nat.le_of_ble_eq_true rfl) ?_
 simp only [ic307, go_sem]
 refine loop_up noT (fun j fr t => ∃ (at_ : Nat) (tl : Frm), fr = (0, .yield yid) :: (1, .tptr [.str s]) :: (3, .int .i64 at_) :: tl ∧ σ.next ≤ t.next ∧ j ≤ at_ ∧ at_ ≤ s.length ∧ I ((vparts (s.drop at_)).map evP) t) s.length ⟨0, [], rfl, Nat.le_refl _, Nat.le_refl _, Nat.zero_le _, hi⟩ ?_
 rintro j fr t hle ⟨a, tl, rfl, hn, hja, has, hI⟩
 by_cases hlt : a < s.length
 ·obtain ⟨b, hb, hget, hdr, _, htk⟩ := at_nth s a hlt
  have c1 : (a : Int) < s.length := by omega
  have c2 : (0 : Int) ≤ a := by omega
  have w1 := wrapS (i := a) (by omega)
  have hk : (4 : Int) ≤ (vkind b : Int) ↔ ¬ vkind b < 4 := by omega
  simp only [go_sem, c1, e_istr1, c2, Int.toNat_natCast, hget, Option.map]
  refine callP_of (kind_pc b) ?_
  simp only [go_sem, w1]
  generalize hU : Store.put (Store.put _ t.next _) t.next _ = U
  have hUn : U.next = t.next + 1 := by rw [← hU]; rfl
  have hUb : U.obj t.next = some (.cells [.int .u8 (vkind b), .str []]) := by rw [← hU]; simp only [put_obj, if_true]
  have hUI : ∀ i, i < t.next → U.obj i = t.obj i := fun i hi => by
   have e : ¬ i = t.next := by omega
   rw [← hU]; simp only [put_obj, e, if_false]
  clear hU
  have hUe : (⟨t.next + 1, U.obj⟩ : Store) = U := by rw [← hUn]
  rw [hUe]
  have hdl : (s.drop (a + 1)).length = s.length - (a + 1) := List.length_drop
  have hrl := run_le b (s.drop (a + 1))
  generalize hR : (if vkind b < 4 then 0 else runL b (s.drop (a + 1))) = R
  have hRl : a + 1 + R ≤ s.length := by
   rw [← hR]; split <;> omega
  refine loop_up noT (fun m fr u => fr = [(0, .yield yid), (1, .tptr [.str s]), (3, .int .i64 ((a + 1 + m : Nat) : Int)), (4, .ptr t.next 0), (5, .int .i64 a)] ∧ t.next + 1 ≤ u.next ∧ u.obj t.next = some (.cells [.int .u8 (vkind b), .str []]) ∧ ∀ i, i < t.next → u.obj i = t.obj i) R ⟨rfl, by omega, hUb, hUI⟩ ?_
  clear hUe hUn hUb hUI
  rintro m fr u hmR ⟨rfl, hUn, hUb, hUI⟩
  have w2 := wrapS (i := a + 1 + m) (by omega)
  have d2 : (0 : Int) ≤ ((a + 1 + m : Nat) : Int) := by omega
  by_cases hm : m < R
  ·have h4 : ¬ vkind b < 4 := fun h => by rw [if_pos h] at hR; omega
   rw [if_neg h4] at hR
   obtain ⟨c, hc1, hc2⟩ := run_lt (b := b) (l := s.drop (a + 1)) (m := m) (by omega)
   have hc : s[a + 1 + m]? = some c := by rw [← hc1, List.getElem?_drop]
   have k1 : (4 : Int) ≤ vkind b := by omega
   have k2 : ((a + 1 + m : Nat) : Int) < s.length := by omega
   have k3 := kind_pc c
   rw [hc2] at k3
   simp only [go_sem, hUb, k1, k2, e_istr1, d2, Int.toNat_natCast, hc, Option.map]
   refine callP_of k3 ?_
   simp only [go_sem, hUb, w2]
   exact ⟨hm, rfl, by omega, hUI⟩
  ·have hmR : m = R := by omega
   subst hmR
   by_cases h4 : vkind b < 4
   ·have k1 : ¬ (4 : Int) ≤ vkind b := by omega
    rw [if_pos h4] at hR
    subst hR
    have k5 : ¬ ((vkind b : Nat) : Int) = 5 := by omega
    have hUI2 : I ((vparts (s.drop a)).map evP) ⟨u.next + 18, u.obj⟩ := hstab _ _ _ hI (by show t.next ≤ u.next + 18; omega) hUI
    rw [hdr] at hUI2
    by_cases h0 : vkind b = 0
    ·have k0 : ((vkind b : Nat) : Int) = 0 := by omega
     rw [vparts_0 h0] at hUI2
     have k6 : ¬ (0 : Int) = 5 := by omega
     simp only [go_sem, hUb, k1, k5, k0, k6]
     exact ⟨by omega, a + 1, _, rfl, by omega, by omega, by omega, hUI2⟩
    ·have k0 : ¬ ((vkind b : Nat) : Int) = 0 := by omega
     rw [vparts_1 h0 h4, List.map_cons] at hUI2
     simp only [go_sem, hUb, k1, k5, k0]
     refine callY hy hUI2 (fun s1 n1 i1 => ?_) (fun s1 n1 h1 => ?_)
     ·have n1' : u.next + 18 ≤ s1.next := n1
      simp only [go_sem]
      exact ⟨by omega, a + 1, _, rfl, by omega, by omega, by omega, i1⟩
     ·have n1' : u.next + 18 ≤ s1.next := n1
      simp only [go_sem]
      exact ⟨by omega, .inr h1⟩
   ·have k1 : (4 : Int) ≤ vkind b := by omega
    rw [if_neg h4] at hR
    have key : ∀ s1 : Store, t.next ≤ s1.next → (∀ i, i < t.next → s1.obj i = t.obj i) → I (evP ⟨vkind b, if vkind b = 5 then ((s.drop a).take (m + 1)).dropWhile (· == 48) else (s.drop a).take (m + 1)⟩ :: (vparts (s.drop (a + 1 + m))).map evP) s1 := fun s1 h1 h2 => by
     have := hstab _ _ _ hI h1 h2
     rw [hdr, vparts_4 h4, List.map_cons, hR, ← hdr, List.drop_drop] at this
     exact this
    have hss : sstrI (some (.int .i64 a)) (some (.int .i64 ((a + 1 + m : Nat) : Int))) (.str s) = some (.str ((s.drop a).take (m + 1))) := by
     have e1 : (0 : Int) ≤ a := by omega
     have e2 : a ≤ a + 1 + m ∧ a + 1 + m ≤ s.length := by omega
     simp only [sstrI, bndI, natI, e1, d2, if_true, Int.toNat_natCast, e2, and_self]
     rw [List.drop_take]
     congr 3; omega
    have k0 : ¬ ((vkind b : Nat) : Int) = 0 := by omega
    have ht := trimL_pc ((s.drop a).take (m + 1)) (by rw [List.length_take, List.length_drop]; omega)
    by_cases hend : a + 1 + m < s.length
    ·have k2 : ((a + 1 + m : Nat) : Int) < s.length := by omega
     have hc : s[a + 1 + m]? = some s[a + 1 + m] := List.getElem?_eq_getElem hend
     have hne : vkind s[a + 1 + m] ≠ vkind b := run_eq (l := s.drop (a + 1)) (by rw [hR, List.getElem?_drop]; exact hc)
     have k7 : ¬ ((vkind s[a + 1 + m] : Nat) : Int) = vkind b := by omega
     simp only [go_sem, hUb, k1, k2, e_istr1, d2, Int.toNat_natCast, hc, Option.map]
     refine callP_of (kind_pc _) ?_
     simp only [go_sem, hUb, k1, k7, hss]
     by_cases h5 : vkind b = 5
     ·have k5 : ((vkind b : Nat) : Int) = 5 := by omega
      have key5 : ∀ s1 : Store, t.next ≤ s1.next → (∀ i, i < t.next → s1.obj i = t.obj i) → I ([IV.agg [.int .u8 5, .str (((s.drop a).take (m + 1)).dropWhile (· == 48))]] :: (vparts (s.drop (a + 1 + m))).map evP) s1 := fun s1 h1 h2 => by
       have := key s1 h1 h2
       rw [if_pos h5] at this
       simp only [evP, Part.cs, k5] at this
       exact this
      have k6 : ¬ (5 : Int) = 0 := by omega
      simp only [go_sem, hUb, k5]
      refine call_pc fok309 ht ?_
      simp only [go_sem, hUb, k5, k6]
      refine callY hy (key5 _ (by simp only [put_next]; omega) fun i hi => ?_) (fun s1 n1 i1 => ?_) (fun s1 n1 h1 => ?_)
      ·have : ¬ i = t.next := by omega
       simp only [put_obj, this, if_false]; exact hUI i hi
      ·have n1' : u.next + 18 ≤ s1.next := n1
       simp only [go_sem]
       exact ⟨by omega, a + 1 + m, _, rfl, by omega, by omega, by omega, i1⟩
      ·have n1' : u.next + 18 ≤ s1.next := n1
       simp only [go_sem]
       exact ⟨by omega, .inr h1⟩
     ·have k5 : ¬ ((vkind b : Nat) : Int) = 5 := by omega
      have key5 : ∀ s1 : Store, t.next ≤ s1.next → (∀ i, i < t.next → s1.obj i = t.obj i) → I ([IV.agg [.int .u8 (vkind b), .str ((s.drop a).take (m + 1))]] :: (vparts (s.drop (a + 1 + m))).map evP) s1 := fun s1 h1 h2 => by
       have := key s1 h1 h2
       rw [if_neg h5] at this
       exact this
      simp only [go_sem, hUb, k5, k0]
      refine callY hy (key5 _ (by simp only [put_next]; omega) fun i hi => ?_) (fun s1 n1 i1 => ?_) (fun s1 n1 h1 => ?_)
      ·have : ¬ i = t.next := by omega
       simp only [put_obj, this, if_false]; exact hUI i hi
      ·have n1' : u.next + 18 ≤ s1.next := n1
       simp only [go_sem]
       exact ⟨by omega, a + 1 + m, _, rfl, by omega, by omega, by omega, i1⟩
      ·have n1' : u.next + 18 ≤ s1.next := n1
       simp only [go_sem]
       exact ⟨by omega, .inr h1⟩
    ·have k2 : ¬ ((a + 1 + m : Nat) : Int) < s.length := by omega
     simp only [go_sem, hUb, k1, k2, hss]
     by_cases h5 : vkind b = 5
     ·have k5 : ((vkind b : Nat) : Int) = 5 := by omega
      have key5 : ∀ s1 : Store, t.next ≤ s1.next → (∀ i, i < t.next → s1.obj i = t.obj i) → I ([IV.agg [.int .u8 5, .str (((s.drop a).take (m + 1)).dropWhile (· == 48))]] :: (vparts (s.drop (a + 1 + m))).map evP) s1 := fun s1 h1 h2 => by
       have := key s1 h1 h2
       rw [if_pos h5] at this
       simp only [evP, Part.cs, k5] at this
       exact this
      have k6 : ¬ (5 : Int) = 0 := by omega
      simp only [go_sem, hUb, k5]
      refine call_pc fok309 ht ?_
      simp only [go_sem, hUb, k5, k6]
      refine callY hy (key5 _ (by simp only [put_next]; omega) fun i hi => ?_) (fun s1 n1 i1 => ?_) (fun s1 n1 h1 => ?_)
      ·have : ¬ i = t.next := by omega
       simp only [put_obj, this, if_false]; exact hUI i hi
      ·have n1' : u.next + 18 ≤ s1.next := n1
       simp only [go_sem]
       exact ⟨by omega, a + 1 + m, _, rfl, by omega, by omega, by omega, i1⟩
      ·have n1' : u.next + 18 ≤ s1.next := n1
       simp only [go_sem]
       exact ⟨by omega, .inr h1⟩
     ·have k5 : ¬ ((vkind b : Nat) : Int) = 5 := by omega
      have key5 : ∀ s1 : Store, t.next ≤ s1.next → (∀ i, i < t.next → s1.obj i = t.obj i) → I ([IV.agg [.int .u8 (vkind b), .str ((s.drop a).take (m + 1))]] :: (vparts (s.drop (a + 1 + m))).map evP) s1 := fun s1 h1 h2 => by
       have := key s1 h1 h2
       rw [if_neg h5] at this
       exact this
      simp only [go_sem, hUb, k5, k0]
      refine callY hy (key5 _ (by simp only [put_next]; omega) fun i hi => ?_) (fun s1 n1 i1 => ?_) (fun s1 n1 h1 => ?_)
      ·have : ¬ i = t.next := by omega
       simp only [put_obj, this, if_false]; exact hUI i hi
      ·have n1' : u.next + 18 ≤ s1.next := n1
       simp only [go_sem]
       exact ⟨by omega, a + 1 + m, _, rfl, by omega, by omega, by omega, i1⟩
      ·have n1' : u.next + 18 ≤ s1.next := n1
       simp only [go_sem]
       exact ⟨by omega, .inr h1⟩
 ·have ha : a = s.length := by omega
  subst ha
  have c1 : ¬ (s.length : Int) < s.length := by omega
  rw [List.drop_length] at hI
  simp only [go_sem, c1]
  exact ⟨hn, .inl hI⟩
end Go.Id.Tryz
