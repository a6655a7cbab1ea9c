/-
  DERIVED. GIVEN WITH THE SEED: THE CARDS: each row of YthmabjmjjonlmaaGreatDoorRows.lean that lists a variable, with what it lists TIED to the program's text (the seventh form; the later family's looks); each row that meets fmt, with fmt's text TOLD by the authors' own Lean function (tested against real Go, not proved from fmt's source: count such statements apart). THE CARD IS WHAT COUNTS. Prove the row's statement (the work); the ties are given (YthmabjmjjonlmaaGreatDoorTie.lean); close each card by the builder's one call (the guide's Derived/Test/ToyasCard.lean, 'card_holds'). Laid BY PROGRAM, IN A SANDBOX (cutbox-door.mjs). By AI agents, Wed Nov 11 2026. No macro, syntax, notation, axiom, sorry.
-/
import Derived.Test.YthmabjmjjonlmaaGreatDoorRows
import GoSem.ClaimSeven
namespace Go.Proofs.YthmabjmjjonlmaaGreatDoor
namespace Rows

/-- THE TIED CARD OF 'chandlerylaw16.ModelTells'. -/
def modelTellsCard : Claim7 := { stood := { row := modelTellsRow, standIns := [], harness := (true, "16a7add03edfdc63c0a0b064a0abd3982947f1ac50fbf98ae5b3d711b8eb870e"), looks := false }, kinds := [], alts := [], laidByText := true, laidKinds := [.data, .mapped, .data, .data, .pinned], laidTests := true, laidLooks := .later }
def ModelTellsCardSaid : Prop := Claim7.holds Tryz.pinned (.plain (OpenSpec.ofChange modelTellsSpec)) modelTellsCard

/-- THE SECOND FORM's CARD OF 'chandlerylaw16.ModelTells'. -/
def modelTellsUptoCard : Claim7 := { stood := { row := modelTellsUptoRow, standIns := [], harness := (true, "16a7add03edfdc63c0a0b064a0abd3982947f1ac50fbf98ae5b3d711b8eb870e"), looks := false }, kinds := [], alts := [], laidByText := true, laidKinds := [.data, .mapped, .data, .data, .pinned], laidTests := true, laidLooks := .later }
def ModelTellsUptoCardSaid : Prop := Claim7.holds Tryz.pinned (.plain (OpenSpec.upto modelTellsSpec)) modelTellsUptoCard
end Rows
end Go.Proofs.YthmabjmjjonlmaaGreatDoor
