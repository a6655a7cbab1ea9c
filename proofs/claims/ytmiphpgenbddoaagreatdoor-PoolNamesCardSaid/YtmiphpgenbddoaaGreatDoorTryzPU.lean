/- PoolNames: the walk. Conditions: none. -/
import Derived.Test.YtmiphpgenbddoaaGreatDoorTryzPT
set_option linter.all false
namespace Go.Id.Tryz
open Go Go.Id Go.Proofs Go.Id.Md
set_option maxRecDepth 100000
set_option linter.unusedSimpArgs false
set_option linter.unusedVariables false
noncomputable def pre : List IC := match ic4 with | .seq a (.seq b (.seq c (.seq d _))) => [a, b, c, d] | _ => []
def rowC : IC := .reg 5 [⟨(some 73), none, (.mksl 15 [(.str []), (.int .i64 0), (.str []), (.str []), (.int .u8 0), (.str []), .nilslice, .nilslice, .nilslice, .nilslice, .nilslice, .nilslice, .nilslice, .nilslice, .nilslice] (.c (.int .i64 257)))⟩, ⟨(some 4), none, (.q (.mov (.t 73)))⟩] [4]
def loopC : IC :=
      (.seq
       (.reg 6 [⟨(some 5), none, (.q (.mov (.c (.int .i64 0))))⟩] [4, 5])
       (.block 0
        (.loop
         (.seq
          (.seq
           (.reg 7 [⟨(some 74), none, (.q (.mov (.t 5)))⟩, ⟨(some 75), none, (.q (.bin .lss (.t 74) (.c (.int .i64 257))))⟩] [4, 5, 75])
           (.cond (.t 75)
            .skip
            (.exit 0)))
          (.seq
           (.block 1
            (.reg 9 [⟨(some 78), none, (.q (.mov (.t 4)))⟩, ⟨(some 79), none, (.q (.mov (.t 5)))⟩, ⟨(some 80), none, (.call 28 [(.c (.str [97]))])⟩, ⟨(some 81), none, (.q (.iaddr 15 (.t 78) (.t 79)))⟩, ⟨none, none, (.store 15 (.t 81) (.t 80))⟩] [4, 5]))
           (.reg 8 [⟨(some 76), none, (.q (.mov (.t 5)))⟩, ⟨(some 77), none, (.q (.bin .add (.t 76) (.c (.int .i64 1))))⟩, ⟨(some 5), none, (.q (.mov (.t 77)))⟩] [4, 5]))))))
theorem ic_eq : ic4 = pre.foldr .seq (.seq rowC (.seq loopC rest)) := rfl
theorem pre_run : (preRun (runK tabX EE 100000 60) EE (fzN 4) 197 100000 pre [] ⟨0, .e⟩).map (fun o => (o.1, o.2.next)) = some ([(72, .bool false)], 1) := by kernel_rfl
def zP : List IV := [(.str []), (.int .i64 0), (.str []), (.str []), (.int .u8 0), (.str []), .nilslice, .nilslice, .nilslice, .nilslice, .nilslice, .nilslice, .nilslice, .nilslice, .nilslice]
theorem rep_snoc (z : List IV) : ∀ n, rep z (n + 1) = rep z n ++ z := by
  intro n
  induction n with
  | zero => simp [rep]
  | succ n ih => show z ++ rep z (n + 1) = (z ++ rep z n) ++ z; rw [ih, List.append_assoc]
theorem gr {α : Type} (x d : α) {n i : Nat} (h : i < n) : (List.replicate n x).getD i d = x := by simp [List.getD_eq_getElem?_getD, h]
theorem row_put (i : Nat) (hi : i < 257) : putL (rep aC i ++ rep zP (257 - i)) (i * 15) aC = rep aC (i + 1) ++ rep zP (257 - (i + 1)) := by
  obtain ⟨m, hm⟩ : ∃ m, 257 - i = m + 1 := ⟨256 - i, by omega⟩
  have hm' : 257 - (i + 1) = m := by omega
  rw [hm, hm', rep_snoc aC i, show rep zP (m + 1) = zP ++ rep zP m from rfl]
  have hl : (rep aC i).length = i * 15 := rep_length aC i
  have hz : i * 15 + aC.length = (rep aC i ++ zP).length := by rw [List.length_append, hl]; rfl
  unfold putL
  rw [List.take_left' hl, hz, ← List.append_assoc (rep aC i) zP, List.drop_left, List.append_assoc]
theorem row_frz (s : Store) (k : Nat) (h : s.obj k = some (.row (rep aC 257))) : Frz s (fun _ => false = true) (.slice k 0 257 15) (pkgsV (List.replicate 257 aP)) := by
  refine .slice k 0 257 15 (rep aC 257) _ (by simp) (.inr h) (by rw [List.length_map, List.length_replicate]) ?_ ?_ ?_
  · rw [rep_length]; show 0 + 257 * 15 ≤ 257 * 15; omega
  · intro i hi
    rw [List.map_replicate, gr _ _ hi]; rfl
  · intro i hi j hj
    rw [List.map_replicate, gr _ _ hi, rep_getD _ (by decide) _ _ _ (by show 0 + (i * 15 + j) < 257 * 15; omega), show (0 + (i * 15 + j)) % aC.length = j by show (0 + (i * 15 + j)) % 15 = j; omega]
    have hj' : j = 0 ∨ j = 1 ∨ j = 2 ∨ j = 3 ∨ j = 4 ∨ j = 5 ∨ j = 6 ∨ j = 7 ∨ j = 8 ∨ j = 9 ∨ j = 10 ∨ j = 11 ∨ j = 12 ∨ j = 13 ∨ j = 14 := by omega
    rcases hj' with rfl | rfl | rfl | rfl | rfl | rfl | rfl | rfl | rfl | rfl | rfl | rfl | rfl | rfl | rfl <;> first | exact .nils | exact .keep _ (.str _) | exact .keep _ (.int _ _)
def zRows (z : List IV) (n : Nat) : List IV := rep z n
theorem w_mksl {pt : PT} {ct : CT} {P : Program} {E : Nat → IV} {e id : Nat} {z : List IV} {x : IX} {fr : Frm} {σ : Store} {K : IV → Store → Prop} : opT pt ct P E (.mksl e z x) id fr σ K = optK (mkslI (x.ev E fr)) fun n => K (.slice id 0 n e) (σ.put id (.row (zRows z n))) := rfl
theorem mk257 {K : Nat → Prop} : optK (mkslI (.int .i64 257)) K = K 257 := rfl
theorem aC_len : aC.length = 15 := rfl
theorem aC_leaf : aC.all IV.leaf = true := rfl
theorem poolNames_pc : PC Tryz.prog EE 4 [] (.bool true) := by
  refine PC_RI hE fok4 (Nat.zero_le _) (fun a h => by cases h) ?_
  rw [ic_eq]
  refine RI_pre0 tabX_ok hE pre_run ?_
  intro s hs
  refine RI_seqT (RI_wpT ?_)
  simp only [rowC, go_sem, reduceCtorEq, Int.reduceLT, Int.reduceLE, Int.reduceToNat, Int.reduceAdd, Nat.reduceEqDiff, Nat.reduceAdd, Nat.reduceMul, Nat.reduceLT, Nat.reduceLeDiff, decide_true, decide_false, ↓reduceIte, w_mksl, mk257]
  refine RI_seqT (RI_wpT ?_)
  simp only [loopC, go_sem, reduceCtorEq, Int.reduceLT, Int.reduceLE, Int.reduceToNat, Int.reduceAdd, Nat.reduceEqDiff, Nat.reduceAdd, Nat.reduceMul, Nat.reduceLT, Nat.reduceLeDiff, decide_true, decide_false, ↓reduceIte]
  refine loop_up noT (fun i fr t => fr = [(4, .slice s.next 0 257 15), (5, .int .i64 i)] ∧ t.next = s.next + 1 ∧ t.obj s.next = some (.row (rep aC i ++ rep zP (257 - i)))) 257 ⟨rfl, rfl, ?_⟩ ?_
  · simp only [go_sem, reduceCtorEq, Int.reduceLT, Int.reduceLE, Int.reduceToNat, Int.reduceAdd, Nat.reduceEqDiff, Nat.reduceAdd, Nat.reduceMul, Nat.reduceLT, Nat.reduceLeDiff, decide_true, decide_false, ↓reduceIte]; rfl
  rintro i fr t hle ⟨rfl, hn, ho⟩
  by_cases hlt : i < 257
  · have c1 : (i : Int) < 257 := by omega
    have c2 : (0 : Int) ≤ i := by omega
    have w1 := wrapS (i := i) (by omega)
    have hlen : i * 15 + 15 ≤ (rep aC i ++ rep zP (257 - i)).length := by
      rw [List.length_append, rep_length, rep_length]
      show i * 15 + 15 ≤ i * 15 + (257 - i) * 15
      omega
    simp only [go_sem, reduceCtorEq, Int.reduceLT, Int.reduceLE, Int.reduceToNat, Int.reduceAdd, Nat.reduceEqDiff, Nat.reduceAdd, Nat.reduceMul, Nat.reduceLT, Nat.reduceLeDiff, decide_true, decide_false, ↓reduceIte, c1]
    refine call_pc fok28 named_pc ?_
    simp only [go_sem, reduceCtorEq, Int.reduceLT, Int.reduceLE, Int.reduceToNat, Int.reduceAdd, Nat.reduceEqDiff, Nat.reduceAdd, Nat.reduceMul, Nat.reduceLT, Nat.reduceLeDiff, decide_true, decide_false, ↓reduceIte, c1, c2, ho, Int.toNat_natCast, Nat.zero_add, aC_len, aC_leaf, hlen, row_put i hlt, w1, hn, and_self]
    exact ⟨c1, hlt⟩
  · have hi : i = 257 := by omega
    subst hi
    have c1 : ¬ ((257 : Nat) : Int) < 257 := by omega
    simp only [go_sem, reduceCtorEq, Int.reduceLT, Int.reduceLE, Int.reduceToNat, Int.reduceAdd, Nat.reduceEqDiff, Nat.reduceAdd, Nat.reduceMul, Nat.reduceLT, Nat.reduceLeDiff, decide_true, decide_false, ↓reduceIte, c1]
    refine RI_frz (S := fun _ => false) (fr' := [(4, pkgsV (List.replicate 257 aP)), (5, .int .i64 257), (75, .bool false)]) (fun k => ?_) (RI_run tabX_ok hE (fun _ => rfl) (by show 2 = t.next; omega) rest_run fun s' => ?_)
    · by_cases hk : k = 4
      · subst hk
        exact .inr (row_frz t s.next (by rw [ho, Nat.sub_self]; show some (IObj.row (rep aC 257 ++ [])) = _; rw [List.append_nil]))
      · left
        have e : (k == 4) = false := by simpa using hk
        simp only [Frm.get, List.lookup, e]
        try rfl
    · simp only [go_sem, reduceCtorEq, Int.reduceLT, Int.reduceLE, Int.reduceToNat, Int.reduceAdd, Nat.reduceEqDiff, Nat.reduceAdd, Nat.reduceMul, Nat.reduceLT, Nat.reduceLeDiff, decide_true, decide_false, ↓reduceIte, XE.ex]
      exact frz_bool _
end Go.Id.Tryz
