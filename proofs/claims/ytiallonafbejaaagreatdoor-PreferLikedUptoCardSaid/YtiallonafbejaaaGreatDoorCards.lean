/-
  DERIVED. GIVEN WITH THE SEED: THE CARDS: each row of YtiallonafbejaaaGreatDoorRows.lean that lists a variable, with what it lists TIED to the program's text (the seventh form; the later family's looks); each row that meets fmt, with fmt's text TOLD by the authors' own Lean function (tested against real Go, not proved from fmt's source: count such statements apart). THE CARD IS WHAT COUNTS. Prove the row's statement (the work); the ties are given (YtiallonafbejaaaGreatDoorTie.lean); close each card by the builder's one call (the guide's Derived/Test/ToyasCard.lean, 'card_holds'). Laid BY PROGRAM, IN A SANDBOX (cutbox-door.mjs). By AI agents, Wed Nov 11 2026. No macro, syntax, notation, axiom, sorry.
-/
import Derived.Test.YtiallonafbejaaaGreatDoorRows
import GoSem.ClaimSeven
namespace Go.Proofs.YtiallonafbejaaaGreatDoor
namespace Rows

/-- THE TIED CARD OF 'chandlerylaw12.PoolByName'. -/
def poolByNameCard : Claim7 := { stood := { row := poolByNameRow, standIns := [], harness := (true, "4ea36aacffac5db0ddb70f5fb71fb180dd38bc1fb11ef7841eddd6f9c9cf468e"), looks := false }, kinds := [], alts := [], laidByText := true, laidKinds := [.data, .mapped, .data, .pinned], laidTests := true, laidLooks := .later }
def PoolByNameCardSaid : Prop := Claim7.holds Tryz.pinned (.plain (OpenSpec.ofChange poolByNameSpec)) poolByNameCard

/-- THE TIED CARD OF 'chandlerylaw13.MatchTurned'. -/
def matchTurnedCard : Claim7 := { stood := { row := matchTurnedRow, standIns := [], harness := (true, "4ea36aacffac5db0ddb70f5fb71fb180dd38bc1fb11ef7841eddd6f9c9cf468e"), looks := false }, kinds := [], alts := [], laidByText := true, laidKinds := [.data, .mapped, .data, .pinned], laidTests := true, laidLooks := .later }
def MatchTurnedCardSaid : Prop := Claim7.holds Tryz.pinned (.plain (OpenSpec.ofChange matchTurnedSpec)) matchTurnedCard

/-- THE TIED CARD OF 'chandlerylaw13.MatchEach'. -/
def matchEachCard : Claim7 := { stood := { row := matchEachRow, standIns := [], harness := (true, "4ea36aacffac5db0ddb70f5fb71fb180dd38bc1fb11ef7841eddd6f9c9cf468e"), looks := false }, kinds := [], alts := [], laidByText := true, laidKinds := [.data, .mapped, .data, .pinned], laidTests := true, laidLooks := .later }
def MatchEachCardSaid : Prop := Claim7.holds Tryz.pinned (.plain (OpenSpec.ofChange matchEachSpec)) matchEachCard

/-- THE TIED CARD OF 'chandlerylaw15.AskEdits'. -/
def askEditsCard : Claim7 := { stood := { row := askEditsRow, standIns := [], harness := (true, "4ea36aacffac5db0ddb70f5fb71fb180dd38bc1fb11ef7841eddd6f9c9cf468e"), looks := false }, kinds := [], alts := [], laidByText := true, laidKinds := [.data, .mapped, .data, .pinned], laidTests := true, laidLooks := .later }
def AskEditsCardSaid : Prop := Claim7.holds Tryz.pinned (.plain (OpenSpec.ofChange askEditsSpec)) askEditsCard

/-- THE TIED CARD OF 'chandlerylaw15.AskItself'. -/
def askItselfCard : Claim7 := { stood := { row := askItselfRow, standIns := [], harness := (true, "4ea36aacffac5db0ddb70f5fb71fb180dd38bc1fb11ef7841eddd6f9c9cf468e"), looks := false }, kinds := [], alts := [], laidByText := true, laidKinds := [.data, .mapped, .data, .pinned], laidTests := true, laidLooks := .later }
def AskItselfCardSaid : Prop := Claim7.holds Tryz.pinned (.plain (OpenSpec.ofChange askItselfSpec)) askItselfCard

/-- THE TIED CARD OF 'chandlerylaw15.AskStates'. -/
def askStatesCard : Claim7 := { stood := { row := askStatesRow, standIns := [], harness := (true, "4ea36aacffac5db0ddb70f5fb71fb180dd38bc1fb11ef7841eddd6f9c9cf468e"), looks := false }, kinds := [], alts := [], laidByText := true, laidKinds := [.data, .mapped, .data, .pinned], laidTests := true, laidLooks := .later }
def AskStatesCardSaid : Prop := Claim7.holds Tryz.pinned (.plain (OpenSpec.ofChange askStatesSpec)) askStatesCard

/-- THE TIED CARD OF 'chandlerylaw25.PreferRow'. -/
def preferRowCard : Claim7 := { stood := { row := preferRowRow, standIns := [], harness := (true, "4ea36aacffac5db0ddb70f5fb71fb180dd38bc1fb11ef7841eddd6f9c9cf468e"), looks := false }, kinds := [], alts := [], laidByText := true, laidKinds := [.data, .mapped, .data, .data, .pinned], laidTests := true, laidLooks := .later }
def PreferRowCardSaid : Prop := Claim7.holds Tryz.pinned (.plain (OpenSpec.ofChange preferRowSpec)) preferRowCard

/-- THE TIED CARD OF 'chandlerylaw25.PreferLiked'. -/
def preferLikedCard : Claim7 := { stood := { row := preferLikedRow, standIns := [], harness := (true, "4ea36aacffac5db0ddb70f5fb71fb180dd38bc1fb11ef7841eddd6f9c9cf468e"), looks := false }, kinds := [], alts := [], laidByText := true, laidKinds := [.data, .mapped, .data, .data, .pinned], laidTests := true, laidLooks := .later }
def PreferLikedCardSaid : Prop := Claim7.holds Tryz.pinned (.plain (OpenSpec.ofChange preferLikedSpec)) preferLikedCard

/-- THE TIED CARD OF 'chandlerylaw31.OrderNames'. -/
def orderNamesCard : Claim7 := { stood := { row := orderNamesRow, standIns := [], harness := (true, "4ea36aacffac5db0ddb70f5fb71fb180dd38bc1fb11ef7841eddd6f9c9cf468e"), looks := false }, kinds := [], alts := [], laidByText := true, laidKinds := [.data, .mapped, .data, .pinned], laidTests := true, laidLooks := .later }
def OrderNamesCardSaid : Prop := Claim7.holds Tryz.pinned (.plain (OpenSpec.ofChange orderNamesSpec)) orderNamesCard

/-- THE TIED CARD OF 'chandlerylaw31.OrderOnce'. -/
def orderOnceCard : Claim7 := { stood := { row := orderOnceRow, standIns := [], harness := (true, "4ea36aacffac5db0ddb70f5fb71fb180dd38bc1fb11ef7841eddd6f9c9cf468e"), looks := false }, kinds := [], alts := [], laidByText := true, laidKinds := [.data, .mapped, .data, .pinned], laidTests := true, laidLooks := .later }
def OrderOnceCardSaid : Prop := Claim7.holds Tryz.pinned (.plain (OpenSpec.ofChange orderOnceSpec)) orderOnceCard

/-- THE SECOND FORM's CARD OF 'chandlerylaw12.PoolByName'. -/
def poolByNameUptoCard : Claim7 := { stood := { row := poolByNameUptoRow, standIns := [], harness := (true, "4ea36aacffac5db0ddb70f5fb71fb180dd38bc1fb11ef7841eddd6f9c9cf468e"), looks := false }, kinds := [], alts := [], laidByText := true, laidKinds := [.data, .mapped, .data, .pinned], laidTests := true, laidLooks := .later }
def PoolByNameUptoCardSaid : Prop := Claim7.holds Tryz.pinned (.plain (OpenSpec.upto poolByNameSpec)) poolByNameUptoCard

/-- THE SECOND FORM's CARD OF 'chandlerylaw13.MatchTurned'. -/
def matchTurnedUptoCard : Claim7 := { stood := { row := matchTurnedUptoRow, standIns := [], harness := (true, "4ea36aacffac5db0ddb70f5fb71fb180dd38bc1fb11ef7841eddd6f9c9cf468e"), looks := false }, kinds := [], alts := [], laidByText := true, laidKinds := [.data, .mapped, .data, .pinned], laidTests := true, laidLooks := .later }
def MatchTurnedUptoCardSaid : Prop := Claim7.holds Tryz.pinned (.plain (OpenSpec.upto matchTurnedSpec)) matchTurnedUptoCard

/-- THE SECOND FORM's CARD OF 'chandlerylaw13.MatchEach'. -/
def matchEachUptoCard : Claim7 := { stood := { row := matchEachUptoRow, standIns := [], harness := (true, "4ea36aacffac5db0ddb70f5fb71fb180dd38bc1fb11ef7841eddd6f9c9cf468e"), looks := false }, kinds := [], alts := [], laidByText := true, laidKinds := [.data, .mapped, .data, .pinned], laidTests := true, laidLooks := .later }
def MatchEachUptoCardSaid : Prop := Claim7.holds Tryz.pinned (.plain (OpenSpec.upto matchEachSpec)) matchEachUptoCard

/-- THE SECOND FORM's CARD OF 'chandlerylaw15.AskEdits'. -/
def askEditsUptoCard : Claim7 := { stood := { row := askEditsUptoRow, standIns := [], harness := (true, "4ea36aacffac5db0ddb70f5fb71fb180dd38bc1fb11ef7841eddd6f9c9cf468e"), looks := false }, kinds := [], alts := [], laidByText := true, laidKinds := [.data, .mapped, .data, .pinned], laidTests := true, laidLooks := .later }
def AskEditsUptoCardSaid : Prop := Claim7.holds Tryz.pinned (.plain (OpenSpec.upto askEditsSpec)) askEditsUptoCard

/-- THE SECOND FORM's CARD OF 'chandlerylaw15.AskItself'. -/
def askItselfUptoCard : Claim7 := { stood := { row := askItselfUptoRow, standIns := [], harness := (true, "4ea36aacffac5db0ddb70f5fb71fb180dd38bc1fb11ef7841eddd6f9c9cf468e"), looks := false }, kinds := [], alts := [], laidByText := true, laidKinds := [.data, .mapped, .data, .pinned], laidTests := true, laidLooks := .later }
def AskItselfUptoCardSaid : Prop := Claim7.holds Tryz.pinned (.plain (OpenSpec.upto askItselfSpec)) askItselfUptoCard

/-- THE SECOND FORM's CARD OF 'chandlerylaw15.AskStates'. -/
def askStatesUptoCard : Claim7 := { stood := { row := askStatesUptoRow, standIns := [], harness := (true, "4ea36aacffac5db0ddb70f5fb71fb180dd38bc1fb11ef7841eddd6f9c9cf468e"), looks := false }, kinds := [], alts := [], laidByText := true, laidKinds := [.data, .mapped, .data, .pinned], laidTests := true, laidLooks := .later }
def AskStatesUptoCardSaid : Prop := Claim7.holds Tryz.pinned (.plain (OpenSpec.upto askStatesSpec)) askStatesUptoCard

/-- THE SECOND FORM's CARD OF 'chandlerylaw25.PreferRow'. -/
def preferRowUptoCard : Claim7 := { stood := { row := preferRowUptoRow, standIns := [], harness := (true, "4ea36aacffac5db0ddb70f5fb71fb180dd38bc1fb11ef7841eddd6f9c9cf468e"), looks := false }, kinds := [], alts := [], laidByText := true, laidKinds := [.data, .mapped, .data, .data, .pinned], laidTests := true, laidLooks := .later }
def PreferRowUptoCardSaid : Prop := Claim7.holds Tryz.pinned (.plain (OpenSpec.upto preferRowSpec)) preferRowUptoCard

/-- THE SECOND FORM's CARD OF 'chandlerylaw25.PreferLiked'. -/
def preferLikedUptoCard : Claim7 := { stood := { row := preferLikedUptoRow, standIns := [], harness := (true, "4ea36aacffac5db0ddb70f5fb71fb180dd38bc1fb11ef7841eddd6f9c9cf468e"), looks := false }, kinds := [], alts := [], laidByText := true, laidKinds := [.data, .mapped, .data, .data, .pinned], laidTests := true, laidLooks := .later }
def PreferLikedUptoCardSaid : Prop := Claim7.holds Tryz.pinned (.plain (OpenSpec.upto preferLikedSpec)) preferLikedUptoCard

/-- THE SECOND FORM's CARD OF 'chandlerylaw31.OrderNames'. -/
def orderNamesUptoCard : Claim7 := { stood := { row := orderNamesUptoRow, standIns := [], harness := (true, "4ea36aacffac5db0ddb70f5fb71fb180dd38bc1fb11ef7841eddd6f9c9cf468e"), looks := false }, kinds := [], alts := [], laidByText := true, laidKinds := [.data, .mapped, .data, .pinned], laidTests := true, laidLooks := .later }
def OrderNamesUptoCardSaid : Prop := Claim7.holds Tryz.pinned (.plain (OpenSpec.upto orderNamesSpec)) orderNamesUptoCard

/-- THE SECOND FORM's CARD OF 'chandlerylaw31.OrderOnce'. -/
def orderOnceUptoCard : Claim7 := { stood := { row := orderOnceUptoRow, standIns := [], harness := (true, "4ea36aacffac5db0ddb70f5fb71fb180dd38bc1fb11ef7841eddd6f9c9cf468e"), looks := false }, kinds := [], alts := [], laidByText := true, laidKinds := [.data, .mapped, .data, .pinned], laidTests := true, laidLooks := .later }
def OrderOnceUptoCardSaid : Prop := Claim7.holds Tryz.pinned (.plain (OpenSpec.upto orderOnceSpec)) orderOnceUptoCard
end Rows
end Go.Proofs.YtiallonafbejaaaGreatDoor
