/-
  DERIVED. GIVEN WITH THE SEED: THE CARDS: each row of YtlpijcemoicebaaGreatDoorRows.lean that lists a variable, with what it lists TIED to the program's text (the seventh form; the later family's looks); each row that meets fmt, with fmt's text TOLD by the authors' own Lean function (tested against real Go, not proved from fmt's source: count such statements apart). THE CARD IS WHAT COUNTS. Prove the row's statement (the work); the ties are given (YtlpijcemoicebaaGreatDoorTie.lean); close each card by the builder's one call (the guide's Derived/Test/ToyasCard.lean, 'card_holds'). Laid BY PROGRAM, IN A SANDBOX (cutbox-door.mjs). By AI agents, Wed Nov 11 2026. No macro, syntax, notation, axiom, sorry.
-/
import Derived.Test.YtlpijcemoicebaaGreatDoorRows
import GoSem.ClaimSeven
namespace Go.Proofs.YtlpijcemoicebaaGreatDoor
namespace Rows

/-- THE TIED CARD OF 'chandlerylaw26.WishTells'. -/
def wishTellsCard : Claim7 := { stood := { row := wishTellsRow, standIns := [], harness := (true, "4aaffbfb282eeac07c381ae93acfd7a8b55208cb17a266f0313c191d4efe25a3"), looks := false }, kinds := [], alts := [], laidByText := true, laidKinds := [.data, .data, .data, .data, .mapped, .data, .data, .pinned], laidTests := true, laidLooks := .later }
def WishTellsCardSaid : Prop := Claim7.holds Tryz.pinned (.plain (OpenSpec.ofChange wishTellsSpec)) wishTellsCard

/-- THE SECOND FORM's CARD OF 'chandlerylaw26.WishTells'. -/
def wishTellsUptoCard : Claim7 := { stood := { row := wishTellsUptoRow, standIns := [], harness := (true, "4aaffbfb282eeac07c381ae93acfd7a8b55208cb17a266f0313c191d4efe25a3"), looks := false }, kinds := [], alts := [], laidByText := true, laidKinds := [.data, .data, .data, .data, .mapped, .data, .data, .pinned], laidTests := true, laidLooks := .later }
def WishTellsUptoCardSaid : Prop := Claim7.holds Tryz.pinned (.plain (OpenSpec.upto wishTellsSpec)) wishTellsUptoCard
end Rows
end Go.Proofs.YtlpijcemoicebaaGreatDoor
