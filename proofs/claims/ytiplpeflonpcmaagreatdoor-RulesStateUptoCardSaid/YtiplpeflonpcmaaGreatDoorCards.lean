/-
  DERIVED. GIVEN WITH THE SEED: THE CARDS: each row of YtiplpeflonpcmaaGreatDoorRows.lean that lists a variable, with what it lists TIED to the program's text (the seventh form; the later family's looks); each row that meets fmt, with fmt's text TOLD by the authors' own Lean function (tested against real Go, not proved from fmt's source: count such statements apart). THE CARD IS WHAT COUNTS. Prove the row's statement (the work); the ties are given (YtiplpeflonpcmaaGreatDoorTie.lean); close each card by the builder's one call (the guide's Derived/Test/ToyasCard.lean, 'card_holds'). Laid BY PROGRAM, IN A SANDBOX (cutbox-door.mjs). By AI agents, Wed Nov 11 2026. No macro, syntax, notation, axiom, sorry.
-/
import Derived.Test.YtiplpeflonpcmaaGreatDoorRows
import GoSem.ClaimSeven
namespace Go.Proofs.YtiplpeflonpcmaaGreatDoor
namespace Rows

/-- THE TIED CARD OF 'chandlerylaw18.RulesState'. -/
def rulesStateCard : Claim7 := { stood := { row := rulesStateRow, standIns := [], harness := (true, "a2864920533177a95f36aeaf07fdb30b38eb7a3d5659d19fa1c490a2eabe7f26"), looks := false }, kinds := [], alts := [], laidByText := true, laidKinds := [.data, .data, .data, .data, .mapped, .data, .data, .pinned], laidTests := true, laidLooks := .later }
def RulesStateCardSaid : Prop := Claim7.holds Tryz.pinned (.plain (OpenSpec.ofChange rulesStateSpec)) rulesStateCard

/-- THE SECOND FORM's CARD OF 'chandlerylaw18.RulesState'. -/
def rulesStateUptoCard : Claim7 := { stood := { row := rulesStateUptoRow, standIns := [], harness := (true, "a2864920533177a95f36aeaf07fdb30b38eb7a3d5659d19fa1c490a2eabe7f26"), looks := false }, kinds := [], alts := [], laidByText := true, laidKinds := [.data, .data, .data, .data, .mapped, .data, .data, .pinned], laidTests := true, laidLooks := .later }
def RulesStateUptoCardSaid : Prop := Claim7.holds Tryz.pinned (.plain (OpenSpec.upto rulesStateSpec)) rulesStateUptoCard
end Rows
end Go.Proofs.YtiplpeflonpcmaaGreatDoor
