/-
  DERIVED. GIVEN WITH THE SEED: THE CARDS: each row of YtkmlpadmllhjpaaGreatDoorRows.lean that lists a variable, with what it lists TIED to the program's text (the seventh form; the later family's looks); each row that meets fmt, with fmt's text TOLD by the authors' own Lean function (tested against real Go, not proved from fmt's source: count such statements apart). THE CARD IS WHAT COUNTS. Prove the row's statement (the work); the ties are given (YtkmlpadmllhjpaaGreatDoorTie.lean); close each card by the builder's one call (the guide's Derived/Test/ToyasCard.lean, 'card_holds'). Laid BY PROGRAM, IN A SANDBOX (cutbox-door.mjs). By AI agents, Wed Nov 11 2026. No macro, syntax, notation, axiom, sorry.
-/
import Derived.Test.YtkmlpadmllhjpaaGreatDoorRows
import GoSem.ClaimSeven
namespace Go.Proofs.YtkmlpadmllhjpaaGreatDoor
namespace Rows

/-- THE TIED CARD OF 'chandlerylaw15.AskNames'. -/
def askNamesCard : Claim7 := { stood := { row := askNamesRow, standIns := [], harness := (true, "a0ed4dd627e1f34a926589204aaaa176034c5e7245c3c6eceaf351d98f0202bb"), looks := false }, kinds := [], alts := [], laidByText := true, laidKinds := [.data, .mapped, .data, .pinned], laidTests := true, laidLooks := .later }
def AskNamesCardSaid : Prop := Claim7.holds Tryz.pinned (.plain (OpenSpec.ofChange askNamesSpec)) askNamesCard

/-- THE TIED CARD OF 'chandlerylaw31.OrderNames'. -/
def orderNamesCard : Claim7 := { stood := { row := orderNamesRow, standIns := [], harness := (true, "a0ed4dd627e1f34a926589204aaaa176034c5e7245c3c6eceaf351d98f0202bb"), looks := false }, kinds := [], alts := [], laidByText := true, laidKinds := [.data, .mapped, .data, .pinned], laidTests := true, laidLooks := .later }
def OrderNamesCardSaid : Prop := Claim7.holds Tryz.pinned (.plain (OpenSpec.ofChange orderNamesSpec)) orderNamesCard

/-- THE TIED CARD OF 'chandlerylaw25.PreferNames'. -/
def preferNamesCard : Claim7 := { stood := { row := preferNamesRow, standIns := [], harness := (true, "a0ed4dd627e1f34a926589204aaaa176034c5e7245c3c6eceaf351d98f0202bb"), looks := false }, kinds := [], alts := [], laidByText := true, laidKinds := [.data, .mapped, .data, .data, .pinned], laidTests := true, laidLooks := .later }
def PreferNamesCardSaid : Prop := Claim7.holds Tryz.pinned (.plain (OpenSpec.ofChange preferNamesSpec)) preferNamesCard

/-- THE SECOND FORM's CARD OF 'chandlerylaw15.AskNames'. -/
def askNamesUptoCard : Claim7 := { stood := { row := askNamesUptoRow, standIns := [], harness := (true, "a0ed4dd627e1f34a926589204aaaa176034c5e7245c3c6eceaf351d98f0202bb"), looks := false }, kinds := [], alts := [], laidByText := true, laidKinds := [.data, .mapped, .data, .pinned], laidTests := true, laidLooks := .later }
def AskNamesUptoCardSaid : Prop := Claim7.holds Tryz.pinned (.plain (OpenSpec.upto askNamesSpec)) askNamesUptoCard

/-- THE SECOND FORM's CARD OF 'chandlerylaw31.OrderNames'. -/
def orderNamesUptoCard : Claim7 := { stood := { row := orderNamesUptoRow, standIns := [], harness := (true, "a0ed4dd627e1f34a926589204aaaa176034c5e7245c3c6eceaf351d98f0202bb"), looks := false }, kinds := [], alts := [], laidByText := true, laidKinds := [.data, .mapped, .data, .pinned], laidTests := true, laidLooks := .later }
def OrderNamesUptoCardSaid : Prop := Claim7.holds Tryz.pinned (.plain (OpenSpec.upto orderNamesSpec)) orderNamesUptoCard

/-- THE SECOND FORM's CARD OF 'chandlerylaw25.PreferNames'. -/
def preferNamesUptoCard : Claim7 := { stood := { row := preferNamesUptoRow, standIns := [], harness := (true, "a0ed4dd627e1f34a926589204aaaa176034c5e7245c3c6eceaf351d98f0202bb"), looks := false }, kinds := [], alts := [], laidByText := true, laidKinds := [.data, .mapped, .data, .data, .pinned], laidTests := true, laidLooks := .later }
def PreferNamesUptoCardSaid : Prop := Claim7.holds Tryz.pinned (.plain (OpenSpec.upto preferNamesSpec)) preferNamesUptoCard
end Rows
end Go.Proofs.YtkmlpadmllhjpaaGreatDoor
