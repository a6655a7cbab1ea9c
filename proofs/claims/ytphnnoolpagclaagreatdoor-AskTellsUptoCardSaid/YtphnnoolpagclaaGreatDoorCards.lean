/-
  DERIVED. GIVEN WITH THE SEED: THE CARDS: each row of YtphnnoolpagclaaGreatDoorRows.lean that lists a variable, with what it lists TIED to the program's text (the seventh form; the later family's looks); each row that meets fmt, with fmt's text TOLD by the authors' own Lean function (tested against real Go, not proved from fmt's source: count such statements apart). THE CARD IS WHAT COUNTS. Prove the row's statement (the work); the ties are given (YtphnnoolpagclaaGreatDoorTie.lean); close each card by the builder's one call (the guide's Derived/Test/ToyasCard.lean, 'card_holds'). Laid BY PROGRAM, IN A SANDBOX (cutbox-door.mjs). By AI agents, Wed Nov 11 2026. No macro, syntax, notation, axiom, sorry.
-/
import Derived.Test.YtphnnoolpagclaaGreatDoorRows
import GoSem.ClaimSeven
namespace Go.Proofs.YtphnnoolpagclaaGreatDoor
namespace Rows

/-- THE TIED CARD OF 'chandlerylaw15.AskTells'. -/
def askTellsCard : Claim7 := { stood := { row := askTellsRow, standIns := [], harness := (true, "277f553fe8c43381380165efa55c8aa85e9f7e7fa0f0ed85508083717f63626a"), looks := false }, kinds := [], alts := [], laidByText := true, laidKinds := [.data, .mapped, .data, .pinned], laidTests := true, laidLooks := .later }
def AskTellsCardSaid : Prop := Claim7.holds Tryz.pinned (.plain (OpenSpec.ofChange askTellsSpec)) askTellsCard

/-- THE SECOND FORM's CARD OF 'chandlerylaw15.AskTells'. -/
def askTellsUptoCard : Claim7 := { stood := { row := askTellsUptoRow, standIns := [], harness := (true, "277f553fe8c43381380165efa55c8aa85e9f7e7fa0f0ed85508083717f63626a"), looks := false }, kinds := [], alts := [], laidByText := true, laidKinds := [.data, .mapped, .data, .pinned], laidTests := true, laidLooks := .later }
def AskTellsUptoCardSaid : Prop := Claim7.holds Tryz.pinned (.plain (OpenSpec.upto askTellsSpec)) askTellsUptoCard
end Rows
end Go.Proofs.YtphnnoolpagclaaGreatDoor
