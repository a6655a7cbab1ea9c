/-
  DERIVED. GIVEN WITH THE SEED: THE CARDS: each row of YtgdmgomjhlohkaaGreatDoorRows.lean that lists a variable, with what it lists TIED to the program's text (the seventh form; the later family's looks); each row that meets fmt, with fmt's text TOLD by the authors' own Lean function (tested against real Go, not proved from fmt's source: count such statements apart). THE CARD IS WHAT COUNTS. Prove the row's statement (the work); the ties are given (YtgdmgomjhlohkaaGreatDoorTie.lean); close each card by the builder's one call (the guide's Derived/Test/ToyasCard.lean, 'card_holds'). Laid BY PROGRAM, IN A SANDBOX (cutbox-door.mjs). By AI agents, Wed Nov 11 2026. No macro, syntax, notation, axiom, sorry.
-/
import Derived.Test.YtgdmgomjhlohkaaGreatDoorRows
import GoSem.ClaimSeven
namespace Go.Proofs.YtgdmgomjhlohkaaGreatDoor
namespace Rows

/-- THE TIED CARD OF 'chandlerylaw29.FixesNames'. -/
def fixesNamesCard : Claim7 := { stood := { row := fixesNamesRow, standIns := [], harness := (true, "1125d908abd1c682e5f3ee9043be2e912c5eed178d4f388439defbc0ba08fe8b"), looks := false }, kinds := [], alts := [], laidByText := true, laidKinds := [.data, .data, .data, .data, .mapped, .data, .pinned], laidTests := true, laidLooks := .later }
def FixesNamesCardSaid : Prop := Claim7.holds Tryz.pinned (.plain (OpenSpec.ofChange fixesNamesSpec)) fixesNamesCard

/-- THE TIED CARD OF 'chandlerylaw28.TroubleNames'. -/
def troubleNamesCard : Claim7 := { stood := { row := troubleNamesRow, standIns := [], harness := (true, "1125d908abd1c682e5f3ee9043be2e912c5eed178d4f388439defbc0ba08fe8b"), looks := false }, kinds := [], alts := [], laidByText := true, laidKinds := [.data, .data, .data, .data, .mapped, .data, .pinned], laidTests := true, laidLooks := .later }
def TroubleNamesCardSaid : Prop := Claim7.holds Tryz.pinned (.plain (OpenSpec.ofChange troubleNamesSpec)) troubleNamesCard

/-- THE SECOND FORM's CARD OF 'chandlerylaw29.FixesNames'. -/
def fixesNamesUptoCard : Claim7 := { stood := { row := fixesNamesUptoRow, standIns := [], harness := (true, "1125d908abd1c682e5f3ee9043be2e912c5eed178d4f388439defbc0ba08fe8b"), looks := false }, kinds := [], alts := [], laidByText := true, laidKinds := [.data, .data, .data, .data, .mapped, .data, .pinned], laidTests := true, laidLooks := .later }
def FixesNamesUptoCardSaid : Prop := Claim7.holds Tryz.pinned (.plain (OpenSpec.upto fixesNamesSpec)) fixesNamesUptoCard

/-- THE SECOND FORM's CARD OF 'chandlerylaw28.TroubleNames'. -/
def troubleNamesUptoCard : Claim7 := { stood := { row := troubleNamesUptoRow, standIns := [], harness := (true, "1125d908abd1c682e5f3ee9043be2e912c5eed178d4f388439defbc0ba08fe8b"), looks := false }, kinds := [], alts := [], laidByText := true, laidKinds := [.data, .data, .data, .data, .mapped, .data, .pinned], laidTests := true, laidLooks := .later }
def TroubleNamesUptoCardSaid : Prop := Claim7.holds Tryz.pinned (.plain (OpenSpec.upto troubleNamesSpec)) troubleNamesUptoCard
end Rows
end Go.Proofs.YtgdmgomjhlohkaaGreatDoor
