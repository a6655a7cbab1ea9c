/- PoolNames: the card. Conditions: none. -/
import Derived.Test.YtmiphpgenbddoaaGreatDoorPN
import Derived.Test.YtmiphpgenbddoaaGreatDoorTryzPU
set_option linter.all false
namespace Go.Proofs.YtmiphpgenbddoaaGreatDoor
open Go Go.Id Go.Proofs Go.ChangeShapes Go.WideShapes Go.ChangeAt Go.WideMaps Go.WideElems Go.RowKit
set_option maxRecDepth 100000
/-- The row. -/
theorem poolNames_row : Rows.PoolNamesSaid := poolNames_said Go.Id.Tryz.poolNames_pc
/-- The card. -/
theorem poolNames_card : Rows.PoolNamesCardSaid :=
  Claim7.holds_tied_plain_at .later [] [.data, .mapped, .data, .pinned] true (true, "b5cd4db041a659c89d28377db03dbb52fb1c9b7b0afe9a86c3c9708754c263d5") false
    poolNames_row (fun _ h => by cases h) (by kernel_rfl) (fun _ h => by cases h) poolNames_row_tie rfl ⟨rfl, rfl⟩ (by kernel_rfl) rfl
    (fun f fn hf hfn => by
      obtain rfl : f = 4 := Option.some.inj ((show Tryz.prog.funcNamed "chandlery/chandlerylaw12.PoolNames" = some 4 by kernel_rfl).symm.trans hf) |>.symm
      obtain rfl : fn = Tryz.f4 := (Option.some.inj (Tryz.func4.symm.trans hfn)).symm
      exact ⟨by kernel_rfl, fun j t ht => by
        rw [Tryz.params4] at ht
        simp at ht⟩)
    (by kernel_rfl)
end Go.Proofs.YtmiphpgenbddoaaGreatDoor
