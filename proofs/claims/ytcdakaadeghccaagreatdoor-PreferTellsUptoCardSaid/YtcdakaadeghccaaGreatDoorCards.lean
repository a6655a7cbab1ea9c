/-
  DERIVED. GIVEN WITH THE SEED: THE CARDS: each row of YtcdakaadeghccaaGreatDoorRows.lean that lists a variable, with what it lists TIED to the program's text (the seventh form; the later family's looks); each row that meets fmt, with fmt's text TOLD by the authors' own Lean function (tested against real Go, not proved from fmt's source: count such statements apart). THE CARD IS WHAT COUNTS. Prove the row's statement (the work); the ties are given (YtcdakaadeghccaaGreatDoorTie.lean); close each card by the builder's one call (the guide's Derived/Test/ToyasCard.lean, 'card_holds'). Laid BY PROGRAM, IN A SANDBOX (cutbox-door.mjs). By AI agents, Wed Nov 11 2026. No macro, syntax, notation, axiom, sorry.
-/
import Derived.Test.YtcdakaadeghccaaGreatDoorRows
import GoSem.ClaimSeven
namespace Go.Proofs.YtcdakaadeghccaaGreatDoor
namespace Rows

/-- THE TIED CARD OF 'chandlerylaw25.PreferTells'. -/
def preferTellsCard : Claim7 := { stood := { row := preferTellsRow, standIns := [], harness := (true, "7341f6d47c3e1a79c6faba272345b5a8748c471ed6f3e8335a22dff27960b000"), looks := false }, kinds := [], alts := [], laidByText := true, laidKinds := [.data, .mapped, .data, .data, .pinned], laidTests := true, laidLooks := .later }
def PreferTellsCardSaid : Prop := Claim7.holds Tryz.pinned (.plain (OpenSpec.ofChange preferTellsSpec)) preferTellsCard

/-- THE SECOND FORM's CARD OF 'chandlerylaw25.PreferTells'. -/
def preferTellsUptoCard : Claim7 := { stood := { row := preferTellsUptoRow, standIns := [], harness := (true, "7341f6d47c3e1a79c6faba272345b5a8748c471ed6f3e8335a22dff27960b000"), looks := false }, kinds := [], alts := [], laidByText := true, laidKinds := [.data, .mapped, .data, .data, .pinned], laidTests := true, laidLooks := .later }
def PreferTellsUptoCardSaid : Prop := Claim7.holds Tryz.pinned (.plain (OpenSpec.upto preferTellsSpec)) preferTellsUptoCard
end Rows
end Go.Proofs.YtcdakaadeghccaaGreatDoor
