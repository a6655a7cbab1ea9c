/-
  DERIVED. GIVEN WITH THE SEED: THE CARDS: each row of YtoanajmmemjeeaaGreatDoorRows.lean that lists a variable, with what it lists TIED to the program's text (the seventh form; the later family's looks); each row that meets fmt, with fmt's text TOLD by the authors' own Lean function (tested against real Go, not proved from fmt's source: count such statements apart). THE CARD IS WHAT COUNTS. Prove the row's statement (the work); the ties are given (YtoanajmmemjeeaaGreatDoorTie.lean); close each card by the builder's one call (the guide's Derived/Test/ToyasCard.lean, 'card_holds'). Laid BY PROGRAM, IN A SANDBOX (cutbox-door.mjs). By AI agents, Wed Nov 11 2026. No macro, syntax, notation, axiom, sorry.
-/
import Derived.Test.YtoanajmmemjeeaaGreatDoorRows
import GoSem.ClaimSeven
namespace Go.Proofs.YtoanajmmemjeeaaGreatDoor
namespace Rows

/-- THE TIED CARD OF 'chandlerylaw29.FixesFewer'. -/
def fixesFewerCard : Claim7 := { stood := { row := fixesFewerRow, standIns := [], harness := (true, "d005d6e22a4d5e59801b7a54745875a80488ca70429ccb22d053d7a220fcd3fe"), looks := false }, kinds := [], alts := [], laidByText := true, laidKinds := [.data, .data, .data, .data, .mapped, .data, .pinned], laidTests := true, laidLooks := .later }
def FixesFewerCardSaid : Prop := Claim7.holds Tryz.pinned (.plain (OpenSpec.ofChange fixesFewerSpec)) fixesFewerCard

/-- THE SECOND FORM's CARD OF 'chandlerylaw29.FixesFewer'. -/
def fixesFewerUptoCard : Claim7 := { stood := { row := fixesFewerUptoRow, standIns := [], harness := (true, "d005d6e22a4d5e59801b7a54745875a80488ca70429ccb22d053d7a220fcd3fe"), looks := false }, kinds := [], alts := [], laidByText := true, laidKinds := [.data, .data, .data, .data, .mapped, .data, .pinned], laidTests := true, laidLooks := .later }
def FixesFewerUptoCardSaid : Prop := Claim7.holds Tryz.pinned (.plain (OpenSpec.upto fixesFewerSpec)) fixesFewerUptoCard
end Rows
end Go.Proofs.YtoanajmmemjeeaaGreatDoor
