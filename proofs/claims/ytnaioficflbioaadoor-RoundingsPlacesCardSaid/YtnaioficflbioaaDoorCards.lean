/-
  DERIVED. GIVEN WITH THE SEED: THE CARDS: each row of YtnaioficflbioaaDoorRows.lean that lists a variable, with what it lists TIED to the program's text (the seventh form; the later family's looks); each row that meets fmt, with fmt's text TOLD by the authors' own Lean function (tested against real Go, not proved from fmt's source: count such statements apart). THE CARD IS WHAT COUNTS. Prove the row's statement (the work); the ties are given (YtnaioficflbioaaDoorTie.lean); close each card by the builder's one call (the guide's Derived/Test/ToyasCard.lean, 'card_holds'). Laid BY PROGRAM, IN A SANDBOX (cutbox-door.mjs). By AI agents, Wed Nov 11 2026. No macro, syntax, notation, axiom, sorry.
-/
import Derived.Test.YtnaioficflbioaaDoorRows
import GoSem.ClaimSeven
namespace Go.Proofs.YtnaioficflbioaaDoor
namespace Rows

/-- THE TIED CARD OF 'columnsevenlaw13.RoundingsRound'. -/
def roundingsRoundCard : Claim7 := { stood := { row := roundingsRoundRow, standIns := [], harness := (true, "cdf09c090305fb38147f80c2665136f841bc68e47b2d9cb4d516ee50cee9e9dd"), looks := false }, kinds := [], alts := [], laidByText := true, laidKinds := [.data, .data, .data, .data, .pinned], laidTests := true, laidLooks := .later }
def RoundingsRoundCardSaid : Prop := Claim7.holds Tryd.pinned (.plain (OpenSpec.ofChange roundingsRoundSpec)) roundingsRoundCard

/-- THE TIED CARD OF 'columnsevenlaw13.RoundingsPlaces'. -/
def roundingsPlacesCard : Claim7 := { stood := { row := roundingsPlacesRow, standIns := [], harness := (true, "cdf09c090305fb38147f80c2665136f841bc68e47b2d9cb4d516ee50cee9e9dd"), looks := false }, kinds := [], alts := [], laidByText := true, laidKinds := [.data, .data, .data, .data, .pinned], laidTests := true, laidLooks := .later }
def RoundingsPlacesCardSaid : Prop := Claim7.holds Tryd.pinned (.plain (OpenSpec.ofChange roundingsPlacesSpec)) roundingsPlacesCard

/-- THE TIED CARD OF 'columnsevenlaw13.RoundingsErrors'. -/
def roundingsErrorsCard : Claim7 := { stood := { row := roundingsErrorsRow, standIns := [], harness := (true, "cdf09c090305fb38147f80c2665136f841bc68e47b2d9cb4d516ee50cee9e9dd"), looks := false }, kinds := [], alts := [], laidByText := true, laidKinds := [.data, .data, .data, .data, .pinned], laidTests := true, laidLooks := .later }
def RoundingsErrorsCardSaid : Prop := Claim7.holds Tryd.pinned (.plain (OpenSpec.ofChange roundingsErrorsSpec)) roundingsErrorsCard

/-- THE TIED CARD OF 'columnsevenlaw13.RoundingsSigns'. -/
def roundingsSignsCard : Claim7 := { stood := { row := roundingsSignsRow, standIns := [], harness := (true, "cdf09c090305fb38147f80c2665136f841bc68e47b2d9cb4d516ee50cee9e9dd"), looks := false }, kinds := [], alts := [], laidByText := true, laidKinds := [.data, .data, .data, .data, .pinned], laidTests := true, laidLooks := .later }
def RoundingsSignsCardSaid : Prop := Claim7.holds Tryd.pinned (.plain (OpenSpec.ofChange roundingsSignsSpec)) roundingsSignsCard

/-- THE TIED CARD OF 'columnsevenlaw13.RoundingsNames'. -/
def roundingsNamesCard : Claim7 := { stood := { row := roundingsNamesRow, standIns := [], harness := (true, "cdf09c090305fb38147f80c2665136f841bc68e47b2d9cb4d516ee50cee9e9dd"), looks := false }, kinds := [], alts := [], laidByText := true, laidKinds := [.data, .data, .data, .data, .widerDeep, .pinned], laidTests := true, laidLooks := .later }
def RoundingsNamesCardSaid : Prop := Claim7.holds Tryd.pinned (.plain (OpenSpec.ofChange roundingsNamesSpec)) roundingsNamesCard

/-- THE TIED CARD OF 'columnsevenlaw13.RoundingsNear'. -/
def roundingsNearCard : Claim7 := { stood := { row := roundingsNearRow, standIns := [], harness := (true, "cdf09c090305fb38147f80c2665136f841bc68e47b2d9cb4d516ee50cee9e9dd"), looks := false }, kinds := [], alts := [], laidByText := true, laidKinds := [.data, .data, .data, .data, .pinned], laidTests := true, laidLooks := .later }
def RoundingsNearCardSaid : Prop := Claim7.holds Tryd.pinned (.plain (OpenSpec.ofChange roundingsNearSpec)) roundingsNearCard

/-- THE SECOND FORM's CARD OF 'columnsevenlaw13.RoundingsRound'. -/
def roundingsRoundUptoCard : Claim7 := { stood := { row := roundingsRoundUptoRow, standIns := [], harness := (true, "cdf09c090305fb38147f80c2665136f841bc68e47b2d9cb4d516ee50cee9e9dd"), looks := false }, kinds := [], alts := [], laidByText := true, laidKinds := [.data, .data, .data, .data, .pinned], laidTests := true, laidLooks := .later }
def RoundingsRoundUptoCardSaid : Prop := Claim7.holds Tryd.pinned (.plain (OpenSpec.upto roundingsRoundSpec)) roundingsRoundUptoCard

/-- THE SECOND FORM's CARD OF 'columnsevenlaw13.RoundingsPlaces'. -/
def roundingsPlacesUptoCard : Claim7 := { stood := { row := roundingsPlacesUptoRow, standIns := [], harness := (true, "cdf09c090305fb38147f80c2665136f841bc68e47b2d9cb4d516ee50cee9e9dd"), looks := false }, kinds := [], alts := [], laidByText := true, laidKinds := [.data, .data, .data, .data, .pinned], laidTests := true, laidLooks := .later }
def RoundingsPlacesUptoCardSaid : Prop := Claim7.holds Tryd.pinned (.plain (OpenSpec.upto roundingsPlacesSpec)) roundingsPlacesUptoCard

/-- THE SECOND FORM's CARD OF 'columnsevenlaw13.RoundingsErrors'. -/
def roundingsErrorsUptoCard : Claim7 := { stood := { row := roundingsErrorsUptoRow, standIns := [], harness := (true, "cdf09c090305fb38147f80c2665136f841bc68e47b2d9cb4d516ee50cee9e9dd"), looks := false }, kinds := [], alts := [], laidByText := true, laidKinds := [.data, .data, .data, .data, .pinned], laidTests := true, laidLooks := .later }
def RoundingsErrorsUptoCardSaid : Prop := Claim7.holds Tryd.pinned (.plain (OpenSpec.upto roundingsErrorsSpec)) roundingsErrorsUptoCard

/-- THE SECOND FORM's CARD OF 'columnsevenlaw13.RoundingsSigns'. -/
def roundingsSignsUptoCard : Claim7 := { stood := { row := roundingsSignsUptoRow, standIns := [], harness := (true, "cdf09c090305fb38147f80c2665136f841bc68e47b2d9cb4d516ee50cee9e9dd"), looks := false }, kinds := [], alts := [], laidByText := true, laidKinds := [.data, .data, .data, .data, .pinned], laidTests := true, laidLooks := .later }
def RoundingsSignsUptoCardSaid : Prop := Claim7.holds Tryd.pinned (.plain (OpenSpec.upto roundingsSignsSpec)) roundingsSignsUptoCard

/-- THE SECOND FORM's CARD OF 'columnsevenlaw13.RoundingsNames'. -/
def roundingsNamesUptoCard : Claim7 := { stood := { row := roundingsNamesUptoRow, standIns := [], harness := (true, "cdf09c090305fb38147f80c2665136f841bc68e47b2d9cb4d516ee50cee9e9dd"), looks := false }, kinds := [], alts := [], laidByText := true, laidKinds := [.data, .data, .data, .data, .widerDeep, .pinned], laidTests := true, laidLooks := .later }
def RoundingsNamesUptoCardSaid : Prop := Claim7.holds Tryd.pinned (.plain (OpenSpec.upto roundingsNamesSpec)) roundingsNamesUptoCard

/-- THE SECOND FORM's CARD OF 'columnsevenlaw13.RoundingsNear'. -/
def roundingsNearUptoCard : Claim7 := { stood := { row := roundingsNearUptoRow, standIns := [], harness := (true, "cdf09c090305fb38147f80c2665136f841bc68e47b2d9cb4d516ee50cee9e9dd"), looks := false }, kinds := [], alts := [], laidByText := true, laidKinds := [.data, .data, .data, .data, .pinned], laidTests := true, laidLooks := .later }
def RoundingsNearUptoCardSaid : Prop := Claim7.holds Tryd.pinned (.plain (OpenSpec.upto roundingsNearSpec)) roundingsNearUptoCard
end Rows
end Go.Proofs.YtnaioficflbioaaDoor
