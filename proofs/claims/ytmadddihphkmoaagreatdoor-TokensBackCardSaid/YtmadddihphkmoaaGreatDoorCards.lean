/-
  DERIVED. GIVEN WITH THE SEED: THE CARDS: each row of YtmadddihphkmoaaGreatDoorRows.lean that lists a variable, with what it lists TIED to the program's text (the seventh form; the later family's looks); each row that meets fmt, with fmt's text TOLD by the authors' own Lean function (tested against real Go, not proved from fmt's source: count such statements apart). THE CARD IS WHAT COUNTS. Prove the row's statement (the work); the ties are given (YtmadddihphkmoaaGreatDoorTie.lean); close each card by the builder's one call (the guide's Derived/Test/ToyasCard.lean, 'card_holds'). Laid BY PROGRAM, IN A SANDBOX (cutbox-door.mjs). By AI agents, Wed Nov 11 2026. No macro, syntax, notation, axiom, sorry.
-/
import Derived.Test.YtmadddihphkmoaaGreatDoorRows
import GoSem.ClaimSeven
namespace Go.Proofs.YtmadddihphkmoaaGreatDoor
namespace Rows

/-- THE TIED CARD OF 'columnsevenlaw03.TokensBack'. -/
def tokensBackCard : Claim7 := { stood := { row := tokensBackRow, standIns := [], harness := (true, "9654052dbe11ff3a28306c468e1c527beb9970982e1f72f3bfde061830f4d9c7"), looks := false }, kinds := [], alts := [], laidByText := true, laidKinds := [.data, .data, .data, .data, .pinned], laidTests := true, laidLooks := .later }
def TokensBackCardSaid : Prop := Claim7.holds Tryz.pinned (.plain (OpenSpec.ofChange tokensBackSpec)) tokensBackCard

/-- THE TIED CARD OF 'columnsevenlaw03.TokensScan'. -/
def tokensScanCard : Claim7 := { stood := { row := tokensScanRow, standIns := [], harness := (true, "9654052dbe11ff3a28306c468e1c527beb9970982e1f72f3bfde061830f4d9c7"), looks := false }, kinds := [], alts := [], laidByText := true, laidKinds := [.data, .pinned], laidTests := true, laidLooks := .later }
def TokensScanCardSaid : Prop := Claim7.holds Tryz.pinned (.plain (OpenSpec.ofChange tokensScanSpec)) tokensScanCard

/-- THE TIED CARD OF 'columnsevenlaw03.TokensErrors'. -/
def tokensErrorsCard : Claim7 := { stood := { row := tokensErrorsRow, standIns := [], harness := (true, "9654052dbe11ff3a28306c468e1c527beb9970982e1f72f3bfde061830f4d9c7"), looks := false }, kinds := [], alts := [], laidByText := true, laidKinds := [.data, .pinned], laidTests := true, laidLooks := .later }
def TokensErrorsCardSaid : Prop := Claim7.holds Tryz.pinned (.plain (OpenSpec.ofChange tokensErrorsSpec)) tokensErrorsCard

/-- THE TIED CARD OF 'columnsevenlaw03.TokensLines'. -/
def tokensLinesCard : Claim7 := { stood := { row := tokensLinesRow, standIns := [], harness := (true, "9654052dbe11ff3a28306c468e1c527beb9970982e1f72f3bfde061830f4d9c7"), looks := false }, kinds := [], alts := [], laidByText := true, laidKinds := [.data, .data, .data, .data, .pinned], laidTests := true, laidLooks := .later }
def TokensLinesCardSaid : Prop := Claim7.holds Tryz.pinned (.plain (OpenSpec.ofChange tokensLinesSpec)) tokensLinesCard

/-- THE SECOND FORM's CARD OF 'columnsevenlaw03.TokensBack'. -/
def tokensBackUptoCard : Claim7 := { stood := { row := tokensBackUptoRow, standIns := [], harness := (true, "9654052dbe11ff3a28306c468e1c527beb9970982e1f72f3bfde061830f4d9c7"), looks := false }, kinds := [], alts := [], laidByText := true, laidKinds := [.data, .data, .data, .data, .pinned], laidTests := true, laidLooks := .later }
def TokensBackUptoCardSaid : Prop := Claim7.holds Tryz.pinned (.plain (OpenSpec.upto tokensBackSpec)) tokensBackUptoCard

/-- THE SECOND FORM's CARD OF 'columnsevenlaw03.TokensScan'. -/
def tokensScanUptoCard : Claim7 := { stood := { row := tokensScanUptoRow, standIns := [], harness := (true, "9654052dbe11ff3a28306c468e1c527beb9970982e1f72f3bfde061830f4d9c7"), looks := false }, kinds := [], alts := [], laidByText := true, laidKinds := [.data, .pinned], laidTests := true, laidLooks := .later }
def TokensScanUptoCardSaid : Prop := Claim7.holds Tryz.pinned (.plain (OpenSpec.upto tokensScanSpec)) tokensScanUptoCard

/-- THE SECOND FORM's CARD OF 'columnsevenlaw03.TokensErrors'. -/
def tokensErrorsUptoCard : Claim7 := { stood := { row := tokensErrorsUptoRow, standIns := [], harness := (true, "9654052dbe11ff3a28306c468e1c527beb9970982e1f72f3bfde061830f4d9c7"), looks := false }, kinds := [], alts := [], laidByText := true, laidKinds := [.data, .pinned], laidTests := true, laidLooks := .later }
def TokensErrorsUptoCardSaid : Prop := Claim7.holds Tryz.pinned (.plain (OpenSpec.upto tokensErrorsSpec)) tokensErrorsUptoCard

/-- THE SECOND FORM's CARD OF 'columnsevenlaw03.TokensLines'. -/
def tokensLinesUptoCard : Claim7 := { stood := { row := tokensLinesUptoRow, standIns := [], harness := (true, "9654052dbe11ff3a28306c468e1c527beb9970982e1f72f3bfde061830f4d9c7"), looks := false }, kinds := [], alts := [], laidByText := true, laidKinds := [.data, .data, .data, .data, .pinned], laidTests := true, laidLooks := .later }
def TokensLinesUptoCardSaid : Prop := Claim7.holds Tryz.pinned (.plain (OpenSpec.upto tokensLinesSpec)) tokensLinesUptoCard
end Rows
end Go.Proofs.YtmadddihphkmoaaGreatDoor
