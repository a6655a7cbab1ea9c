/-
  DERIVED. GIVEN WITH THE SEED: THE CARDS: each row of YteomphdgniepbaaGreatDoorRows.lean that lists a variable, with what it lists TIED to the program's text (the seventh form; the later family's looks); each row that meets fmt, with fmt's text TOLD by the authors' own Lean function (tested against real Go, not proved from fmt's source: count such statements apart). THE CARD IS WHAT COUNTS. Prove the row's statement (the work); the ties are given (YteomphdgniepbaaGreatDoorTie.lean); close each card by the builder's one call (the guide's Derived/Test/ToyasCard.lean, 'card_holds'). Laid BY PROGRAM, IN A SANDBOX (cutbox-door.mjs). By AI agents, Wed Nov 11 2026. No macro, syntax, notation, axiom, sorry.
-/
import Derived.Test.YteomphdgniepbaaGreatDoorRows
import GoSem.ClaimSeven
namespace Go.Proofs.YteomphdgniepbaaGreatDoor
namespace Rows

/-- THE TIED CARD OF 'chandlerylaw25.PreferRow'. -/
def preferRowCard : Claim7 := { stood := { row := preferRowRow, standIns := [], harness := (true, "644371ce53d3e19f20d01062e5be65a7df3798e1e2114831b21592f758e30cd2"), looks := false }, kinds := [], alts := [], laidByText := true, laidKinds := [.data, .mapped, .data, .data, .pinned], laidTests := true, laidLooks := .later }
def PreferRowCardSaid : Prop := Claim7.holds Tryz.pinned (.plain (OpenSpec.ofChange preferRowSpec)) preferRowCard

/-- THE TIED CARD OF 'chandlerylaw31.OrderOnce'. -/
def orderOnceCard : Claim7 := { stood := { row := orderOnceRow, standIns := [], harness := (true, "644371ce53d3e19f20d01062e5be65a7df3798e1e2114831b21592f758e30cd2"), looks := false }, kinds := [], alts := [], laidByText := true, laidKinds := [.data, .mapped, .data, .pinned], laidTests := true, laidLooks := .later }
def OrderOnceCardSaid : Prop := Claim7.holds Tryz.pinned (.plain (OpenSpec.ofChange orderOnceSpec)) orderOnceCard

/-- THE TIED CARD OF 'chandlerylaw31.OrderNeeds'. -/
def orderNeedsCard : Claim7 := { stood := { row := orderNeedsRow, standIns := [], harness := (true, "644371ce53d3e19f20d01062e5be65a7df3798e1e2114831b21592f758e30cd2"), looks := false }, kinds := [], alts := [], laidByText := true, laidKinds := [.data, .mapped, .data, .pinned], laidTests := true, laidLooks := .later }
def OrderNeedsCardSaid : Prop := Claim7.holds Tryz.pinned (.plain (OpenSpec.ofChange orderNeedsSpec)) orderNeedsCard

/-- THE TIED CARD OF 'chandlerylaw16.ModelNothing'. -/
def modelNothingCard : Claim7 := { stood := { row := modelNothingRow, standIns := [], harness := (true, "644371ce53d3e19f20d01062e5be65a7df3798e1e2114831b21592f758e30cd2"), looks := false }, kinds := [], alts := [], laidByText := true, laidKinds := [.data, .mapped, .data, .data, .pinned], laidTests := true, laidLooks := .later }
def ModelNothingCardSaid : Prop := Claim7.holds Tryz.pinned (.plain (OpenSpec.ofChange modelNothingSpec)) modelNothingCard

/-- THE TIED CARD OF 'chandlerylaw16.ModelFewer'. -/
def modelFewerCard : Claim7 := { stood := { row := modelFewerRow, standIns := [], harness := (true, "644371ce53d3e19f20d01062e5be65a7df3798e1e2114831b21592f758e30cd2"), looks := false }, kinds := [], alts := [], laidByText := true, laidKinds := [.data, .mapped, .data, .data, .pinned], laidTests := true, laidLooks := .later }
def ModelFewerCardSaid : Prop := Claim7.holds Tryz.pinned (.plain (OpenSpec.ofChange modelFewerSpec)) modelFewerCard

/-- THE TIED CARD OF 'chandlerylaw16.ModelGood'. -/
def modelGoodCard : Claim7 := { stood := { row := modelGoodRow, standIns := [], harness := (true, "644371ce53d3e19f20d01062e5be65a7df3798e1e2114831b21592f758e30cd2"), looks := false }, kinds := [], alts := [], laidByText := true, laidKinds := [.data, .mapped, .data, .data, .pinned], laidTests := true, laidLooks := .later }
def ModelGoodCardSaid : Prop := Claim7.holds Tryz.pinned (.plain (OpenSpec.ofChange modelGoodSpec)) modelGoodCard

/-- THE TIED CARD OF 'chandlerylaw16.ModelNeeds'. -/
def modelNeedsCard : Claim7 := { stood := { row := modelNeedsRow, standIns := [], harness := (true, "644371ce53d3e19f20d01062e5be65a7df3798e1e2114831b21592f758e30cd2"), looks := false }, kinds := [], alts := [], laidByText := true, laidKinds := [.data, .mapped, .data, .data, .pinned], laidTests := true, laidLooks := .later }
def ModelNeedsCardSaid : Prop := Claim7.holds Tryz.pinned (.plain (OpenSpec.ofChange modelNeedsSpec)) modelNeedsCard

/-- THE TIED CARD OF 'chandlerylaw25.PreferWays'. -/
def preferWaysCard : Claim7 := { stood := { row := preferWaysRow, standIns := [], harness := (true, "644371ce53d3e19f20d01062e5be65a7df3798e1e2114831b21592f758e30cd2"), looks := false }, kinds := [], alts := [], laidByText := true, laidKinds := [.data, .mapped, .data, .data, .pinned], laidTests := true, laidLooks := .later }
def PreferWaysCardSaid : Prop := Claim7.holds Tryz.pinned (.plain (OpenSpec.ofChange preferWaysSpec)) preferWaysCard

/-- THE SECOND FORM's CARD OF 'chandlerylaw25.PreferRow'. -/
def preferRowUptoCard : Claim7 := { stood := { row := preferRowUptoRow, standIns := [], harness := (true, "644371ce53d3e19f20d01062e5be65a7df3798e1e2114831b21592f758e30cd2"), looks := false }, kinds := [], alts := [], laidByText := true, laidKinds := [.data, .mapped, .data, .data, .pinned], laidTests := true, laidLooks := .later }
def PreferRowUptoCardSaid : Prop := Claim7.holds Tryz.pinned (.plain (OpenSpec.upto preferRowSpec)) preferRowUptoCard

/-- THE SECOND FORM's CARD OF 'chandlerylaw31.OrderOnce'. -/
def orderOnceUptoCard : Claim7 := { stood := { row := orderOnceUptoRow, standIns := [], harness := (true, "644371ce53d3e19f20d01062e5be65a7df3798e1e2114831b21592f758e30cd2"), looks := false }, kinds := [], alts := [], laidByText := true, laidKinds := [.data, .mapped, .data, .pinned], laidTests := true, laidLooks := .later }
def OrderOnceUptoCardSaid : Prop := Claim7.holds Tryz.pinned (.plain (OpenSpec.upto orderOnceSpec)) orderOnceUptoCard

/-- THE SECOND FORM's CARD OF 'chandlerylaw31.OrderNeeds'. -/
def orderNeedsUptoCard : Claim7 := { stood := { row := orderNeedsUptoRow, standIns := [], harness := (true, "644371ce53d3e19f20d01062e5be65a7df3798e1e2114831b21592f758e30cd2"), looks := false }, kinds := [], alts := [], laidByText := true, laidKinds := [.data, .mapped, .data, .pinned], laidTests := true, laidLooks := .later }
def OrderNeedsUptoCardSaid : Prop := Claim7.holds Tryz.pinned (.plain (OpenSpec.upto orderNeedsSpec)) orderNeedsUptoCard

/-- THE SECOND FORM's CARD OF 'chandlerylaw16.ModelNothing'. -/
def modelNothingUptoCard : Claim7 := { stood := { row := modelNothingUptoRow, standIns := [], harness := (true, "644371ce53d3e19f20d01062e5be65a7df3798e1e2114831b21592f758e30cd2"), looks := false }, kinds := [], alts := [], laidByText := true, laidKinds := [.data, .mapped, .data, .data, .pinned], laidTests := true, laidLooks := .later }
def ModelNothingUptoCardSaid : Prop := Claim7.holds Tryz.pinned (.plain (OpenSpec.upto modelNothingSpec)) modelNothingUptoCard

/-- THE SECOND FORM's CARD OF 'chandlerylaw16.ModelFewer'. -/
def modelFewerUptoCard : Claim7 := { stood := { row := modelFewerUptoRow, standIns := [], harness := (true, "644371ce53d3e19f20d01062e5be65a7df3798e1e2114831b21592f758e30cd2"), looks := false }, kinds := [], alts := [], laidByText := true, laidKinds := [.data, .mapped, .data, .data, .pinned], laidTests := true, laidLooks := .later }
def ModelFewerUptoCardSaid : Prop := Claim7.holds Tryz.pinned (.plain (OpenSpec.upto modelFewerSpec)) modelFewerUptoCard

/-- THE SECOND FORM's CARD OF 'chandlerylaw16.ModelGood'. -/
def modelGoodUptoCard : Claim7 := { stood := { row := modelGoodUptoRow, standIns := [], harness := (true, "644371ce53d3e19f20d01062e5be65a7df3798e1e2114831b21592f758e30cd2"), looks := false }, kinds := [], alts := [], laidByText := true, laidKinds := [.data, .mapped, .data, .data, .pinned], laidTests := true, laidLooks := .later }
def ModelGoodUptoCardSaid : Prop := Claim7.holds Tryz.pinned (.plain (OpenSpec.upto modelGoodSpec)) modelGoodUptoCard

/-- THE SECOND FORM's CARD OF 'chandlerylaw16.ModelNeeds'. -/
def modelNeedsUptoCard : Claim7 := { stood := { row := modelNeedsUptoRow, standIns := [], harness := (true, "644371ce53d3e19f20d01062e5be65a7df3798e1e2114831b21592f758e30cd2"), looks := false }, kinds := [], alts := [], laidByText := true, laidKinds := [.data, .mapped, .data, .data, .pinned], laidTests := true, laidLooks := .later }
def ModelNeedsUptoCardSaid : Prop := Claim7.holds Tryz.pinned (.plain (OpenSpec.upto modelNeedsSpec)) modelNeedsUptoCard

/-- THE SECOND FORM's CARD OF 'chandlerylaw25.PreferWays'. -/
def preferWaysUptoCard : Claim7 := { stood := { row := preferWaysUptoRow, standIns := [], harness := (true, "644371ce53d3e19f20d01062e5be65a7df3798e1e2114831b21592f758e30cd2"), looks := false }, kinds := [], alts := [], laidByText := true, laidKinds := [.data, .mapped, .data, .data, .pinned], laidTests := true, laidLooks := .later }
def PreferWaysUptoCardSaid : Prop := Claim7.holds Tryz.pinned (.plain (OpenSpec.upto preferWaysSpec)) preferWaysUptoCard
end Rows
end Go.Proofs.YteomphdgniepbaaGreatDoor
