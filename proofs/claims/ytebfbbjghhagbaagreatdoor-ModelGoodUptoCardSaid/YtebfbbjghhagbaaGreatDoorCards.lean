/-
  DERIVED. GIVEN WITH THE SEED: THE CARDS: each row of YtebfbbjghhagbaaGreatDoorRows.lean that lists a variable, with what it lists TIED to the program's text (the seventh form; the later family's looks); each row that meets fmt, with fmt's text TOLD by the authors' own Lean function (tested against real Go, not proved from fmt's source: count such statements apart). THE CARD IS WHAT COUNTS. Prove the row's statement (the work); the ties are given (YtebfbbjghhagbaaGreatDoorTie.lean); close each card by the builder's one call (the guide's Derived/Test/ToyasCard.lean, 'card_holds'). Laid BY PROGRAM, IN A SANDBOX (cutbox-door.mjs). By AI agents, Wed Nov 11 2026. No macro, syntax, notation, axiom, sorry.
-/
import Derived.Test.YtebfbbjghhagbaaGreatDoorRows
import GoSem.ClaimSeven
namespace Go.Proofs.YtebfbbjghhagbaaGreatDoor
namespace Rows

/-- THE TIED CARD OF 'chandlerylaw16.ModelNothing'. -/
def modelNothingCard : Claim7 := { stood := { row := modelNothingRow, standIns := [], harness := (true, "6c5220b7435601f861055acaf4e7a8d79dad778511d1499d79b58ce15ce6db41"), looks := false }, kinds := [], alts := [], laidByText := true, laidKinds := [.data, .mapped, .data, .data, .pinned], laidTests := true, laidLooks := .later }
def ModelNothingCardSaid : Prop := Claim7.holds Tryz.pinned (.plain (OpenSpec.ofChange modelNothingSpec)) modelNothingCard

/-- THE TIED CARD OF 'chandlerylaw16.ModelFewer'. -/
def modelFewerCard : Claim7 := { stood := { row := modelFewerRow, standIns := [], harness := (true, "6c5220b7435601f861055acaf4e7a8d79dad778511d1499d79b58ce15ce6db41"), looks := false }, kinds := [], alts := [], laidByText := true, laidKinds := [.data, .mapped, .data, .data, .pinned], laidTests := true, laidLooks := .later }
def ModelFewerCardSaid : Prop := Claim7.holds Tryz.pinned (.plain (OpenSpec.ofChange modelFewerSpec)) modelFewerCard

/-- THE TIED CARD OF 'chandlerylaw16.ModelTells'. -/
def modelTellsCard : Claim7 := { stood := { row := modelTellsRow, standIns := [], harness := (true, "6c5220b7435601f861055acaf4e7a8d79dad778511d1499d79b58ce15ce6db41"), looks := false }, kinds := [], alts := [], laidByText := true, laidKinds := [.data, .mapped, .data, .data, .pinned], laidTests := true, laidLooks := .later }
def ModelTellsCardSaid : Prop := Claim7.holds Tryz.pinned (.plain (OpenSpec.ofChange modelTellsSpec)) modelTellsCard

/-- THE TIED CARD OF 'chandlerylaw16.ModelGood'. -/
def modelGoodCard : Claim7 := { stood := { row := modelGoodRow, standIns := [], harness := (true, "6c5220b7435601f861055acaf4e7a8d79dad778511d1499d79b58ce15ce6db41"), looks := false }, kinds := [], alts := [], laidByText := true, laidKinds := [.data, .mapped, .data, .data, .pinned], laidTests := true, laidLooks := .later }
def ModelGoodCardSaid : Prop := Claim7.holds Tryz.pinned (.plain (OpenSpec.ofChange modelGoodSpec)) modelGoodCard

/-- THE TIED CARD OF 'chandlerylaw16.ModelNeeds'. -/
def modelNeedsCard : Claim7 := { stood := { row := modelNeedsRow, standIns := [], harness := (true, "6c5220b7435601f861055acaf4e7a8d79dad778511d1499d79b58ce15ce6db41"), looks := false }, kinds := [], alts := [], laidByText := true, laidKinds := [.data, .mapped, .data, .data, .pinned], laidTests := true, laidLooks := .later }
def ModelNeedsCardSaid : Prop := Claim7.holds Tryz.pinned (.plain (OpenSpec.ofChange modelNeedsSpec)) modelNeedsCard

/-- THE SECOND FORM's CARD OF 'chandlerylaw16.ModelNothing'. -/
def modelNothingUptoCard : Claim7 := { stood := { row := modelNothingUptoRow, standIns := [], harness := (true, "6c5220b7435601f861055acaf4e7a8d79dad778511d1499d79b58ce15ce6db41"), looks := false }, kinds := [], alts := [], laidByText := true, laidKinds := [.data, .mapped, .data, .data, .pinned], laidTests := true, laidLooks := .later }
def ModelNothingUptoCardSaid : Prop := Claim7.holds Tryz.pinned (.plain (OpenSpec.upto modelNothingSpec)) modelNothingUptoCard

/-- THE SECOND FORM's CARD OF 'chandlerylaw16.ModelFewer'. -/
def modelFewerUptoCard : Claim7 := { stood := { row := modelFewerUptoRow, standIns := [], harness := (true, "6c5220b7435601f861055acaf4e7a8d79dad778511d1499d79b58ce15ce6db41"), looks := false }, kinds := [], alts := [], laidByText := true, laidKinds := [.data, .mapped, .data, .data, .pinned], laidTests := true, laidLooks := .later }
def ModelFewerUptoCardSaid : Prop := Claim7.holds Tryz.pinned (.plain (OpenSpec.upto modelFewerSpec)) modelFewerUptoCard

/-- THE SECOND FORM's CARD OF 'chandlerylaw16.ModelTells'. -/
def modelTellsUptoCard : Claim7 := { stood := { row := modelTellsUptoRow, standIns := [], harness := (true, "6c5220b7435601f861055acaf4e7a8d79dad778511d1499d79b58ce15ce6db41"), looks := false }, kinds := [], alts := [], laidByText := true, laidKinds := [.data, .mapped, .data, .data, .pinned], laidTests := true, laidLooks := .later }
def ModelTellsUptoCardSaid : Prop := Claim7.holds Tryz.pinned (.plain (OpenSpec.upto modelTellsSpec)) modelTellsUptoCard

/-- THE SECOND FORM's CARD OF 'chandlerylaw16.ModelGood'. -/
def modelGoodUptoCard : Claim7 := { stood := { row := modelGoodUptoRow, standIns := [], harness := (true, "6c5220b7435601f861055acaf4e7a8d79dad778511d1499d79b58ce15ce6db41"), looks := false }, kinds := [], alts := [], laidByText := true, laidKinds := [.data, .mapped, .data, .data, .pinned], laidTests := true, laidLooks := .later }
def ModelGoodUptoCardSaid : Prop := Claim7.holds Tryz.pinned (.plain (OpenSpec.upto modelGoodSpec)) modelGoodUptoCard

/-- THE SECOND FORM's CARD OF 'chandlerylaw16.ModelNeeds'. -/
def modelNeedsUptoCard : Claim7 := { stood := { row := modelNeedsUptoRow, standIns := [], harness := (true, "6c5220b7435601f861055acaf4e7a8d79dad778511d1499d79b58ce15ce6db41"), looks := false }, kinds := [], alts := [], laidByText := true, laidKinds := [.data, .mapped, .data, .data, .pinned], laidTests := true, laidLooks := .later }
def ModelNeedsUptoCardSaid : Prop := Claim7.holds Tryz.pinned (.plain (OpenSpec.upto modelNeedsSpec)) modelNeedsUptoCard
end Rows
end Go.Proofs.YtebfbbjghhagbaaGreatDoor
