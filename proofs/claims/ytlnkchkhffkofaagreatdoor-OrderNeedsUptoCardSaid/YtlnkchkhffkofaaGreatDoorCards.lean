/-
  DERIVED. GIVEN WITH THE SEED: THE CARDS: each row of YtlnkchkhffkofaaGreatDoorRows.lean that lists a variable, with what it lists TIED to the program's text (the seventh form; the later family's looks); each row that meets fmt, with fmt's text TOLD by the authors' own Lean function (tested against real Go, not proved from fmt's source: count such statements apart). THE CARD IS WHAT COUNTS. Prove the row's statement (the work); the ties are given (YtlnkchkhffkofaaGreatDoorTie.lean); close each card by the builder's one call (the guide's Derived/Test/ToyasCard.lean, 'card_holds'). Laid BY PROGRAM, IN A SANDBOX (cutbox-door.mjs). By AI agents, Wed Nov 11 2026. No macro, syntax, notation, axiom, sorry.
-/
import Derived.Test.YtlnkchkhffkofaaGreatDoorRows
import GoSem.ClaimSeven
namespace Go.Proofs.YtlnkchkhffkofaaGreatDoor
namespace Rows

/-- THE TIED CARD OF 'chandlerylaw31.OrderNeeds'. -/
def orderNeedsCard : Claim7 := { stood := { row := orderNeedsRow, standIns := [], harness := (true, "0d60a1630f75d1b8e9fc6e2dd6c65ee2d065bb972a8a031077b4901a03e07f7c"), looks := false }, kinds := [], alts := [], laidByText := true, laidKinds := [.data, .mapped, .data, .pinned], laidTests := true, laidLooks := .later }
def OrderNeedsCardSaid : Prop := Claim7.holds Tryz.pinned (.plain (OpenSpec.ofChange orderNeedsSpec)) orderNeedsCard

/-- THE TIED CARD OF 'chandlerylaw25.PreferWays'. -/
def preferWaysCard : Claim7 := { stood := { row := preferWaysRow, standIns := [], harness := (true, "0d60a1630f75d1b8e9fc6e2dd6c65ee2d065bb972a8a031077b4901a03e07f7c"), looks := false }, kinds := [], alts := [], laidByText := true, laidKinds := [.data, .mapped, .data, .data, .pinned], laidTests := true, laidLooks := .later }
def PreferWaysCardSaid : Prop := Claim7.holds Tryz.pinned (.plain (OpenSpec.ofChange preferWaysSpec)) preferWaysCard

/-- THE SECOND FORM's CARD OF 'chandlerylaw31.OrderNeeds'. -/
def orderNeedsUptoCard : Claim7 := { stood := { row := orderNeedsUptoRow, standIns := [], harness := (true, "0d60a1630f75d1b8e9fc6e2dd6c65ee2d065bb972a8a031077b4901a03e07f7c"), looks := false }, kinds := [], alts := [], laidByText := true, laidKinds := [.data, .mapped, .data, .pinned], laidTests := true, laidLooks := .later }
def OrderNeedsUptoCardSaid : Prop := Claim7.holds Tryz.pinned (.plain (OpenSpec.upto orderNeedsSpec)) orderNeedsUptoCard

/-- THE SECOND FORM's CARD OF 'chandlerylaw25.PreferWays'. -/
def preferWaysUptoCard : Claim7 := { stood := { row := preferWaysUptoRow, standIns := [], harness := (true, "0d60a1630f75d1b8e9fc6e2dd6c65ee2d065bb972a8a031077b4901a03e07f7c"), looks := false }, kinds := [], alts := [], laidByText := true, laidKinds := [.data, .mapped, .data, .data, .pinned], laidTests := true, laidLooks := .later }
def PreferWaysUptoCardSaid : Prop := Claim7.holds Tryz.pinned (.plain (OpenSpec.upto preferWaysSpec)) preferWaysUptoCard
end Rows
end Go.Proofs.YtlnkchkhffkofaaGreatDoor
