/-
  DERIVED. GIVEN WITH THE SEED: THE CARDS: each row of YtiallonafbejaaaDoorRows.lean that lists a variable, with what it lists TIED to the program's text (the seventh form; the later family's looks); each row that meets fmt, with fmt's text TOLD by the authors' own Lean function (tested against real Go, not proved from fmt's source: count such statements apart). THE CARD IS WHAT COUNTS. Prove the row's statement (the work); the ties are given (YtiallonafbejaaaDoorTie.lean); close each card by the builder's one call (the guide's Derived/Test/ToyasCard.lean, 'card_holds'). Laid BY PROGRAM, IN A SANDBOX (cutbox-door.mjs). By AI agents, Wed Nov 11 2026. No macro, syntax, notation, axiom, sorry.
-/
import Derived.Test.YtiallonafbejaaaDoorRows
import GoSem.ClaimSeven
namespace Go.Proofs.YtiallonafbejaaaDoor
namespace Rows

/-- THE TIED CARD OF 'chandlerylaw12.PoolLess'. -/
def poolLessCard : Claim7 := { stood := { row := poolLessRow, standIns := [], harness := (true, "531f5a3786407616f5ba124fe9ed791d7cf7013f4ffd0b443f7ef83f25dc785e"), looks := false }, kinds := [], alts := [], laidByText := true, laidKinds := [.mapped, .data], laidTests := true, laidLooks := .later }
def PoolLessCardSaid : Prop := Claim7.holds Tryd.pinned (.plain (OpenSpec.ofChange poolLessSpec)) poolLessCard

/-- THE TIED CARD OF 'chandlerylaw12.PoolOwn'. -/
def poolOwnCard : Claim7 := { stood := { row := poolOwnRow, standIns := [], harness := (true, "531f5a3786407616f5ba124fe9ed791d7cf7013f4ffd0b443f7ef83f25dc785e"), looks := false }, kinds := [], alts := [], laidByText := true, laidKinds := [.mapped, .data], laidTests := true, laidLooks := .later }
def PoolOwnCardSaid : Prop := Claim7.holds Tryd.pinned (.plain (OpenSpec.ofChange poolOwnSpec)) poolOwnCard

/-- THE SECOND FORM's CARD OF 'chandlerylaw12.PoolLess'. -/
def poolLessUptoCard : Claim7 := { stood := { row := poolLessUptoRow, standIns := [], harness := (true, "531f5a3786407616f5ba124fe9ed791d7cf7013f4ffd0b443f7ef83f25dc785e"), looks := false }, kinds := [], alts := [], laidByText := true, laidKinds := [.mapped, .data], laidTests := true, laidLooks := .later }
def PoolLessUptoCardSaid : Prop := Claim7.holds Tryd.pinned (.plain (OpenSpec.upto poolLessSpec)) poolLessUptoCard

/-- THE SECOND FORM's CARD OF 'chandlerylaw12.PoolOwn'. -/
def poolOwnUptoCard : Claim7 := { stood := { row := poolOwnUptoRow, standIns := [], harness := (true, "531f5a3786407616f5ba124fe9ed791d7cf7013f4ffd0b443f7ef83f25dc785e"), looks := false }, kinds := [], alts := [], laidByText := true, laidKinds := [.mapped, .data], laidTests := true, laidLooks := .later }
def PoolOwnUptoCardSaid : Prop := Claim7.holds Tryd.pinned (.plain (OpenSpec.upto poolOwnSpec)) poolOwnUptoCard
end Rows
end Go.Proofs.YtiallonafbejaaaDoor
