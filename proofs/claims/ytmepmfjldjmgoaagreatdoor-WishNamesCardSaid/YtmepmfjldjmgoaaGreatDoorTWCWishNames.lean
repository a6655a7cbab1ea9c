/- WishNames: the row and the card. Conditions: none. -/
import Derived.Test.YtmepmfjldjmgoaaGreatDoorTWDWishNames
import Derived.Test.YtmepmfjldjmgoaaGreatDoorTWJWishNames
import Derived.Test.YtmepmfjldjmgoaaGreatDoorRows
import Derived.Test.YtmepmfjldjmgoaaGreatDoorTie
import Derived.Test.YtmepmfjldjmgoaaGreatDoorCards
import Derived.ProofKit
import Derived.LaidMore
import Derived.Lay
import Derived.OpenShut
import Derived.Stop.Joined
import Derived.SevenTiedAt
set_option linter.all false
namespace Go.Proofs.YtmepmfjldjmgoaaGreatDoor
open Go Go.Id Go.Proofs Go.ChangeShapes Go.WideShapes Go.ChangeAt Go.WideMaps Go.WideElems Go.RowKit
set_option maxRecDepth 100000
theorem wishNames_said (hp : PC Tryz.prog (envOf Go.Id.Tryz.envK) 3 [] (.bool true)) : Rows.WishNamesSaid :=
  OpenClaim.holds_of_wide 3 Tryz.f3 rfl rfl rfl rfl rfl rfl rfl ⟨rfl, rfl, rfl, rfl, rfl⟩ rfl rfl rfl rfl rfl wishNames_n Tryz.func3 wishNames_closed
    (of_decide_eq_true (by kernel_rfl)) (by unfold Func.isWrapper; first | (rw [if_pos (by decide +kernel)]; kernel_rfl) | (rw [if_neg (by decide +kernel)]; exact ⟨rfl, rfl⟩))
    (fun os started H enc _ => wishNames_lifted hp os started H enc)
theorem wishNames_row : Rows.WishNamesSaid := wishNames_said Go.Id.Tryz.wishNames_pc
theorem wishNames_card : Rows.WishNamesCardSaid :=
  Claim7.holds_tied_plain_at .later [] [.data, .data, .data, .data, .mapped, .data, .data, .pinned] true (true, "86e30f65f809f71041cd0d1d4d0867c10bfc3421da65dcdb9250d189f1c633b2") false
    wishNames_row (fun _ h => by cases h) wishNames_w (fun _ h => by cases h) wishNames_row_tie rfl ⟨rfl, rfl⟩ wishNames_m rfl
    (fun f fn hf hfn => by
      obtain rfl : f = 3 := Option.some.inj ((show Tryz.prog.funcNamed "chandlery/chandlerylaw26.WishNames" = some 3 from wishNames_n).symm.trans hf) |>.symm
      obtain rfl : fn = Tryz.f3 := (Option.some.inj (Tryz.func3.symm.trans hfn)).symm
      exact ⟨wishNames_k, fun j t ht => by
        rw [Tryz.params3] at ht
        simp at ht⟩)
    wishNames_g
end Go.Proofs.YtmepmfjldjmgoaaGreatDoor
