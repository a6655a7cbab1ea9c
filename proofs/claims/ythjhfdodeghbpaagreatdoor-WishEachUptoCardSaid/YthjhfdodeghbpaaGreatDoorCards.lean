/-
  DERIVED. GIVEN WITH THE SEED: THE CARDS: each row of YthjhfdodeghbpaaGreatDoorRows.lean that lists a variable, with what it lists TIED to the program's text (the seventh form; the later family's looks); each row that meets fmt, with fmt's text TOLD by the authors' own Lean function (tested against real Go, not proved from fmt's source: count such statements apart). THE CARD IS WHAT COUNTS. Prove the row's statement (the work); the ties are given (YthjhfdodeghbpaaGreatDoorTie.lean); close each card by the builder's one call (the guide's Derived/Test/ToyasCard.lean, 'card_holds'). Laid BY PROGRAM, IN A SANDBOX (cutbox-door.mjs). By AI agents, Wed Nov 11 2026. No macro, syntax, notation, axiom, sorry.
-/
import Derived.Test.YthjhfdodeghbpaaGreatDoorRows
import GoSem.ClaimSeven
namespace Go.Proofs.YthjhfdodeghbpaaGreatDoor
namespace Rows

/-- THE TIED CARD OF 'chandlerylaw26.WishEach'. -/
def wishEachCard : Claim7 := { stood := { row := wishEachRow, standIns := [], harness := (true, "be51924e264aa4305ae1f66d4dcc7e5caf46fc3d248551d3e7010cccd3c2bf1e"), looks := false }, kinds := [], alts := [], laidByText := true, laidKinds := [.data, .data, .data, .data, .mapped, .data, .data, .pinned], laidTests := true, laidLooks := .later }
def WishEachCardSaid : Prop := Claim7.holds Tryz.pinned (.plain (OpenSpec.ofChange wishEachSpec)) wishEachCard

/-- THE SECOND FORM's CARD OF 'chandlerylaw26.WishEach'. -/
def wishEachUptoCard : Claim7 := { stood := { row := wishEachUptoRow, standIns := [], harness := (true, "be51924e264aa4305ae1f66d4dcc7e5caf46fc3d248551d3e7010cccd3c2bf1e"), looks := false }, kinds := [], alts := [], laidByText := true, laidKinds := [.data, .data, .data, .data, .mapped, .data, .data, .pinned], laidTests := true, laidLooks := .later }
def WishEachUptoCardSaid : Prop := Claim7.holds Tryz.pinned (.plain (OpenSpec.upto wishEachSpec)) wishEachUptoCard
end Rows
end Go.Proofs.YthjhfdodeghbpaaGreatDoor
