/-
  DERIVED. GIVEN WITH THE SEED: THE CARDS: each row of YtmepmfjldjmgoaaGreatDoorRows.lean that lists a variable, with what it lists TIED to the program's text (the seventh form; the later family's looks); each row that meets fmt, with fmt's text TOLD by the authors' own Lean function (tested against real Go, not proved from fmt's source: count such statements apart). THE CARD IS WHAT COUNTS. Prove the row's statement (the work); the ties are given (YtmepmfjldjmgoaaGreatDoorTie.lean); close each card by the builder's one call (the guide's Derived/Test/ToyasCard.lean, 'card_holds'). Laid BY PROGRAM, IN A SANDBOX (cutbox-door.mjs). By AI agents, Wed Nov 11 2026. No macro, syntax, notation, axiom, sorry.
-/
import Derived.Test.YtmepmfjldjmgoaaGreatDoorRows
import GoSem.ClaimSeven
namespace Go.Proofs.YtmepmfjldjmgoaaGreatDoor
namespace Rows

/-- THE TIED CARD OF 'chandlerylaw26.WishNames'. -/
def wishNamesCard : Claim7 := { stood := { row := wishNamesRow, standIns := [], harness := (true, "86e30f65f809f71041cd0d1d4d0867c10bfc3421da65dcdb9250d189f1c633b2"), looks := false }, kinds := [], alts := [], laidByText := true, laidKinds := [.data, .data, .data, .data, .mapped, .data, .data, .pinned], laidTests := true, laidLooks := .later }
def WishNamesCardSaid : Prop := Claim7.holds Tryz.pinned (.plain (OpenSpec.ofChange wishNamesSpec)) wishNamesCard

/-- THE TIED CARD OF 'chandlerylaw27.BestNames'. -/
def bestNamesCard : Claim7 := { stood := { row := bestNamesRow, standIns := [], harness := (true, "86e30f65f809f71041cd0d1d4d0867c10bfc3421da65dcdb9250d189f1c633b2"), looks := false }, kinds := [], alts := [], laidByText := true, laidKinds := [.data, .data, .data, .data, .mapped, .data, .data, .pinned], laidTests := true, laidLooks := .later }
def BestNamesCardSaid : Prop := Claim7.holds Tryz.pinned (.plain (OpenSpec.ofChange bestNamesSpec)) bestNamesCard

/-- THE SECOND FORM's CARD OF 'chandlerylaw26.WishNames'. -/
def wishNamesUptoCard : Claim7 := { stood := { row := wishNamesUptoRow, standIns := [], harness := (true, "86e30f65f809f71041cd0d1d4d0867c10bfc3421da65dcdb9250d189f1c633b2"), looks := false }, kinds := [], alts := [], laidByText := true, laidKinds := [.data, .data, .data, .data, .mapped, .data, .data, .pinned], laidTests := true, laidLooks := .later }
def WishNamesUptoCardSaid : Prop := Claim7.holds Tryz.pinned (.plain (OpenSpec.upto wishNamesSpec)) wishNamesUptoCard

/-- THE SECOND FORM's CARD OF 'chandlerylaw27.BestNames'. -/
def bestNamesUptoCard : Claim7 := { stood := { row := bestNamesUptoRow, standIns := [], harness := (true, "86e30f65f809f71041cd0d1d4d0867c10bfc3421da65dcdb9250d189f1c633b2"), looks := false }, kinds := [], alts := [], laidByText := true, laidKinds := [.data, .data, .data, .data, .mapped, .data, .data, .pinned], laidTests := true, laidLooks := .later }
def BestNamesUptoCardSaid : Prop := Claim7.holds Tryz.pinned (.plain (OpenSpec.upto bestNamesSpec)) bestNamesUptoCard
end Rows
end Go.Proofs.YtmepmfjldjmgoaaGreatDoor
