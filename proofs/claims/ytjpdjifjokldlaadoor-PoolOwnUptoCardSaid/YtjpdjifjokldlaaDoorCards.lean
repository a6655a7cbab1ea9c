/-
  DERIVED. GIVEN WITH THE SEED: THE CARDS: each row of YtjpdjifjokldlaaDoorRows.lean that lists a variable, with what it lists TIED to the program's text (the seventh form; the later family's looks); each row that meets fmt, with fmt's text TOLD by the authors' own Lean function (tested against real Go, not proved from fmt's source: count such statements apart). THE CARD IS WHAT COUNTS. Prove the row's statement (the work); the ties are given (YtjpdjifjokldlaaDoorTie.lean); close each card by the builder's one call (the guide's Derived/Test/ToyasCard.lean, 'card_holds'). Laid BY PROGRAM, IN A SANDBOX (cutbox-door.mjs). By AI agents, Wed Nov 11 2026. No macro, syntax, notation, axiom, sorry.
-/
import Derived.Test.YtjpdjifjokldlaaDoorRows
import GoSem.ClaimSeven
namespace Go.Proofs.YtjpdjifjokldlaaDoor
namespace Rows

/-- THE TIED CARD OF 'chandlerylaw12.PoolOwn'. -/
def poolOwnCard : Claim7 := { stood := { row := poolOwnRow, standIns := [], harness := (true, "491e3c562b409aa37d83763811d2226c287af236e7489d03af8c6ae0a971df5a"), looks := false }, kinds := [], alts := [], laidByText := true, laidKinds := [.mapped, .data], laidTests := true, laidLooks := .later }
def PoolOwnCardSaid : Prop := Claim7.holds Tryd.pinned (.plain (OpenSpec.ofChange poolOwnSpec)) poolOwnCard

/-- THE SECOND FORM's CARD OF 'chandlerylaw12.PoolOwn'. -/
def poolOwnUptoCard : Claim7 := { stood := { row := poolOwnUptoRow, standIns := [], harness := (true, "491e3c562b409aa37d83763811d2226c287af236e7489d03af8c6ae0a971df5a"), looks := false }, kinds := [], alts := [], laidByText := true, laidKinds := [.mapped, .data], laidTests := true, laidLooks := .later }
def PoolOwnUptoCardSaid : Prop := Claim7.holds Tryd.pinned (.plain (OpenSpec.upto poolOwnSpec)) poolOwnUptoCard
end Rows
end Go.Proofs.YtjpdjifjokldlaaDoor
