/-
  DERIVED. GIVEN WITH THE SEED: THE CARDS: each row of YtmiphpgenbddoaaGreatDoorRows.lean that lists a variable, with what it lists TIED to the program's text (the seventh form; the later family's looks); each row that meets fmt, with fmt's text TOLD by the authors' own Lean function (tested against real Go, not proved from fmt's source: count such statements apart). THE CARD IS WHAT COUNTS. Prove the row's statement (the work); the ties are given (YtmiphpgenbddoaaGreatDoorTie.lean); close each card by the builder's one call (the guide's Derived/Test/ToyasCard.lean, 'card_holds'). Laid BY PROGRAM, IN A SANDBOX (cutbox-door.mjs). By AI agents, Wed Nov 11 2026. No macro, syntax, notation, axiom, sorry.
-/
import Derived.Test.YtmiphpgenbddoaaGreatDoorRows
import GoSem.ClaimSeven
namespace Go.Proofs.YtmiphpgenbddoaaGreatDoor
namespace Rows

/-- THE TIED CARD OF 'chandlerylaw12.PoolTells'. -/
def poolTellsCard : Claim7 := { stood := { row := poolTellsRow, standIns := [], harness := (true, "b5cd4db041a659c89d28377db03dbb52fb1c9b7b0afe9a86c3c9708754c263d5"), looks := false }, kinds := [], alts := [], laidByText := true, laidKinds := [.data, .mapped, .data, .pinned], laidTests := true, laidLooks := .later }
def PoolTellsCardSaid : Prop := Claim7.holds Tryz.pinned (.plain (OpenSpec.ofChange poolTellsSpec)) poolTellsCard

/-- THE TIED CARD OF 'chandlerylaw12.PoolNames'. -/
def poolNamesCard : Claim7 := { stood := { row := poolNamesRow, standIns := [], harness := (true, "b5cd4db041a659c89d28377db03dbb52fb1c9b7b0afe9a86c3c9708754c263d5"), looks := false }, kinds := [], alts := [], laidByText := true, laidKinds := [.data, .mapped, .data, .pinned], laidTests := true, laidLooks := .later }
def PoolNamesCardSaid : Prop := Claim7.holds Tryz.pinned (.plain (OpenSpec.ofChange poolNamesSpec)) poolNamesCard

/-- THE TIED CARD OF 'chandlerylaw12.PoolByName'. -/
def poolByNameCard : Claim7 := { stood := { row := poolByNameRow, standIns := [], harness := (true, "b5cd4db041a659c89d28377db03dbb52fb1c9b7b0afe9a86c3c9708754c263d5"), looks := false }, kinds := [], alts := [], laidByText := true, laidKinds := [.data, .mapped, .data, .pinned], laidTests := true, laidLooks := .later }
def PoolByNameCardSaid : Prop := Claim7.holds Tryz.pinned (.plain (OpenSpec.ofChange poolByNameSpec)) poolByNameCard

/-- THE TIED CARD OF 'chandlerylaw13.MatchTurned'. -/
def matchTurnedCard : Claim7 := { stood := { row := matchTurnedRow, standIns := [], harness := (true, "b5cd4db041a659c89d28377db03dbb52fb1c9b7b0afe9a86c3c9708754c263d5"), looks := false }, kinds := [], alts := [], laidByText := true, laidKinds := [.data, .mapped, .data, .pinned], laidTests := true, laidLooks := .later }
def MatchTurnedCardSaid : Prop := Claim7.holds Tryz.pinned (.plain (OpenSpec.ofChange matchTurnedSpec)) matchTurnedCard

/-- THE TIED CARD OF 'chandlerylaw13.MatchNames'. -/
def matchNamesCard : Claim7 := { stood := { row := matchNamesRow, standIns := [], harness := (true, "b5cd4db041a659c89d28377db03dbb52fb1c9b7b0afe9a86c3c9708754c263d5"), looks := false }, kinds := [], alts := [], laidByText := true, laidKinds := [.data, .mapped, .data, .pinned], laidTests := true, laidLooks := .later }
def MatchNamesCardSaid : Prop := Claim7.holds Tryz.pinned (.plain (OpenSpec.ofChange matchNamesSpec)) matchNamesCard

/-- THE TIED CARD OF 'chandlerylaw13.MatchEach'. -/
def matchEachCard : Claim7 := { stood := { row := matchEachRow, standIns := [], harness := (true, "b5cd4db041a659c89d28377db03dbb52fb1c9b7b0afe9a86c3c9708754c263d5"), looks := false }, kinds := [], alts := [], laidByText := true, laidKinds := [.data, .mapped, .data, .pinned], laidTests := true, laidLooks := .later }
def MatchEachCardSaid : Prop := Claim7.holds Tryz.pinned (.plain (OpenSpec.ofChange matchEachSpec)) matchEachCard

/-- THE SECOND FORM's CARD OF 'chandlerylaw12.PoolTells'. -/
def poolTellsUptoCard : Claim7 := { stood := { row := poolTellsUptoRow, standIns := [], harness := (true, "b5cd4db041a659c89d28377db03dbb52fb1c9b7b0afe9a86c3c9708754c263d5"), looks := false }, kinds := [], alts := [], laidByText := true, laidKinds := [.data, .mapped, .data, .pinned], laidTests := true, laidLooks := .later }
def PoolTellsUptoCardSaid : Prop := Claim7.holds Tryz.pinned (.plain (OpenSpec.upto poolTellsSpec)) poolTellsUptoCard

/-- THE SECOND FORM's CARD OF 'chandlerylaw12.PoolNames'. -/
def poolNamesUptoCard : Claim7 := { stood := { row := poolNamesUptoRow, standIns := [], harness := (true, "b5cd4db041a659c89d28377db03dbb52fb1c9b7b0afe9a86c3c9708754c263d5"), looks := false }, kinds := [], alts := [], laidByText := true, laidKinds := [.data, .mapped, .data, .pinned], laidTests := true, laidLooks := .later }
def PoolNamesUptoCardSaid : Prop := Claim7.holds Tryz.pinned (.plain (OpenSpec.upto poolNamesSpec)) poolNamesUptoCard

/-- THE SECOND FORM's CARD OF 'chandlerylaw12.PoolByName'. -/
def poolByNameUptoCard : Claim7 := { stood := { row := poolByNameUptoRow, standIns := [], harness := (true, "b5cd4db041a659c89d28377db03dbb52fb1c9b7b0afe9a86c3c9708754c263d5"), looks := false }, kinds := [], alts := [], laidByText := true, laidKinds := [.data, .mapped, .data, .pinned], laidTests := true, laidLooks := .later }
def PoolByNameUptoCardSaid : Prop := Claim7.holds Tryz.pinned (.plain (OpenSpec.upto poolByNameSpec)) poolByNameUptoCard

/-- THE SECOND FORM's CARD OF 'chandlerylaw13.MatchTurned'. -/
def matchTurnedUptoCard : Claim7 := { stood := { row := matchTurnedUptoRow, standIns := [], harness := (true, "b5cd4db041a659c89d28377db03dbb52fb1c9b7b0afe9a86c3c9708754c263d5"), looks := false }, kinds := [], alts := [], laidByText := true, laidKinds := [.data, .mapped, .data, .pinned], laidTests := true, laidLooks := .later }
def MatchTurnedUptoCardSaid : Prop := Claim7.holds Tryz.pinned (.plain (OpenSpec.upto matchTurnedSpec)) matchTurnedUptoCard

/-- THE SECOND FORM's CARD OF 'chandlerylaw13.MatchNames'. -/
def matchNamesUptoCard : Claim7 := { stood := { row := matchNamesUptoRow, standIns := [], harness := (true, "b5cd4db041a659c89d28377db03dbb52fb1c9b7b0afe9a86c3c9708754c263d5"), looks := false }, kinds := [], alts := [], laidByText := true, laidKinds := [.data, .mapped, .data, .pinned], laidTests := true, laidLooks := .later }
def MatchNamesUptoCardSaid : Prop := Claim7.holds Tryz.pinned (.plain (OpenSpec.upto matchNamesSpec)) matchNamesUptoCard

/-- THE SECOND FORM's CARD OF 'chandlerylaw13.MatchEach'. -/
def matchEachUptoCard : Claim7 := { stood := { row := matchEachUptoRow, standIns := [], harness := (true, "b5cd4db041a659c89d28377db03dbb52fb1c9b7b0afe9a86c3c9708754c263d5"), looks := false }, kinds := [], alts := [], laidByText := true, laidKinds := [.data, .mapped, .data, .pinned], laidTests := true, laidLooks := .later }
def MatchEachUptoCardSaid : Prop := Claim7.holds Tryz.pinned (.plain (OpenSpec.upto matchEachSpec)) matchEachUptoCard
end Rows
end Go.Proofs.YtmiphpgenbddoaaGreatDoor
