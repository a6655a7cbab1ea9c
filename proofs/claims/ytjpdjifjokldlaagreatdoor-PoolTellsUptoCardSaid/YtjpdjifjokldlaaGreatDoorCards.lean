/-
  DERIVED. GIVEN WITH THE SEED: THE CARDS: each row of YtjpdjifjokldlaaGreatDoorRows.lean that lists a variable, with what it lists TIED to the program's text (the seventh form; the later family's looks); each row that meets fmt, with fmt's text TOLD by the authors' own Lean function (tested against real Go, not proved from fmt's source: count such statements apart). THE CARD IS WHAT COUNTS. Prove the row's statement (the work); the ties are given (YtjpdjifjokldlaaGreatDoorTie.lean); close each card by the builder's one call (the guide's Derived/Test/ToyasCard.lean, 'card_holds'). Laid BY PROGRAM, IN A SANDBOX (cutbox-door.mjs). By AI agents, Wed Nov 11 2026. No macro, syntax, notation, axiom, sorry.
-/
import Derived.Test.YtjpdjifjokldlaaGreatDoorRows
import GoSem.ClaimSeven
namespace Go.Proofs.YtjpdjifjokldlaaGreatDoor
namespace Rows

/-- THE TIED CARD OF 'chandlerylaw12.PoolTells'. -/
def poolTellsCard : Claim7 := { stood := { row := poolTellsRow, standIns := [], harness := (true, "3c581072be16a64a69170222decda019ddfee5f5a479ac71331cd3279e6da083"), looks := false }, kinds := [], alts := [], laidByText := true, laidKinds := [.data, .mapped, .data, .pinned], laidTests := true, laidLooks := .later }
def PoolTellsCardSaid : Prop := Claim7.holds Tryz.pinned (.plain (OpenSpec.ofChange poolTellsSpec)) poolTellsCard

/-- THE SECOND FORM's CARD OF 'chandlerylaw12.PoolTells'. -/
def poolTellsUptoCard : Claim7 := { stood := { row := poolTellsUptoRow, standIns := [], harness := (true, "3c581072be16a64a69170222decda019ddfee5f5a479ac71331cd3279e6da083"), looks := false }, kinds := [], alts := [], laidByText := true, laidKinds := [.data, .mapped, .data, .pinned], laidTests := true, laidLooks := .later }
def PoolTellsUptoCardSaid : Prop := Claim7.holds Tryz.pinned (.plain (OpenSpec.upto poolTellsSpec)) poolTellsUptoCard
end Rows
end Go.Proofs.YtjpdjifjokldlaaGreatDoor
