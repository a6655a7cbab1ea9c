/- BestNames: the row and the card. Conditions: none. -/
import Derived.Test.YtmepmfjldjmgoaaGreatDoorTWDBestNames
import Derived.Test.YtmepmfjldjmgoaaGreatDoorTWJBestNames
import Derived.Test.YtmepmfjldjmgoaaGreatDoorRows
import Derived.Test.YtmepmfjldjmgoaaGreatDoorTie
import Derived.Test.YtmepmfjldjmgoaaGreatDoorCards
import Derived.ProofKit
import Derived.LaidMore
import Derived.Lay
import Derived.OpenShut
import Derived.Stop.Joined
import Derived.SevenTiedAt
set_option linter.all false
namespace Go.Proofs.YtmepmfjldjmgoaaGreatDoor
open Go Go.Id Go.Proofs Go.ChangeShapes Go.WideShapes Go.ChangeAt Go.WideMaps Go.WideElems Go.RowKit
set_option maxRecDepth 100000
theorem bestNames_said (hp : PC Tryz.prog (envOf Go.Id.Tryz.envK) 4 [] (.bool true)) : Rows.BestNamesSaid :=
  OpenClaim.holds_of_wide 4 Tryz.f4 rfl rfl rfl rfl rfl rfl rfl ⟨rfl, rfl, rfl, rfl, rfl⟩ rfl rfl rfl rfl rfl bestNames_n Tryz.func4 bestNames_closed
    (of_decide_eq_true (by kernel_rfl)) (by unfold Func.isWrapper; first | (rw [if_pos (by decide +kernel)]; kernel_rfl) | (rw [if_neg (by decide +kernel)]; exact ⟨rfl, rfl⟩))
    (fun os started H enc _ => bestNames_lifted hp os started H enc)
theorem bestNames_row : Rows.BestNamesSaid := bestNames_said Go.Id.Tryz.bestNames_pc
theorem bestNames_card : Rows.BestNamesCardSaid :=
  Claim7.holds_tied_plain_at .later [] [.data, .data, .data, .data, .mapped, .data, .data, .pinned] true (true, "86e30f65f809f71041cd0d1d4d0867c10bfc3421da65dcdb9250d189f1c633b2") false
    bestNames_row (fun _ h => by cases h) bestNames_w (fun _ h => by cases h) bestNames_row_tie rfl ⟨rfl, rfl⟩ bestNames_m rfl
    (fun f fn hf hfn => by
      obtain rfl : f = 4 := Option.some.inj ((show Tryz.prog.funcNamed "chandlery/chandlerylaw27.BestNames" = some 4 from bestNames_n).symm.trans hf) |>.symm
      obtain rfl : fn = Tryz.f4 := (Option.some.inj (Tryz.func4.symm.trans hfn)).symm
      exact ⟨bestNames_k, fun j t ht => by
        rw [Tryz.params4] at ht
        simp at ht⟩)
    bestNames_g
end Go.Proofs.YtmepmfjldjmgoaaGreatDoor
