/-
  DERIVED. GIVEN WITH THE SEED: THE CARDS: each row of YtgiadjbiimkbiaaGreatDoorRows.lean that lists a variable, with what it lists TIED to the program's text (the seventh form; the later family's looks); each row that meets fmt, with fmt's text TOLD by the authors' own Lean function (tested against real Go, not proved from fmt's source: count such statements apart). THE CARD IS WHAT COUNTS. Prove the row's statement (the work); the ties are given (YtgiadjbiimkbiaaGreatDoorTie.lean); close each card by the builder's one call (the guide's Derived/Test/ToyasCard.lean, 'card_holds'). Laid BY PROGRAM, IN A SANDBOX (cutbox-door.mjs). By AI agents, Wed Nov 11 2026. No macro, syntax, notation, axiom, sorry.
-/
import Derived.Test.YtgiadjbiimkbiaaGreatDoorRows
import GoSem.ClaimSeven
namespace Go.Proofs.YtgiadjbiimkbiaaGreatDoor
namespace Rows

/-- THE TIED CARD OF 'columnsevenlaw23.StatementsKnown'. -/
def statementsKnownCard : Claim7 := { stood := { row := statementsKnownRow, standIns := [], harness := (true, "78c84ee983fc924e7569ec77a325c7572dd6f2c979518f1882a11f0dde5dd8a0"), looks := true }, kinds := [], alts := [], laidByText := true, laidKinds := [.data, .listed, .data, .pinned], laidTests := true, laidLooks := .later }
def StatementsKnownCardSaid : Prop := Claim7.holds Tryz.pinned (.plain (OpenSpec.ofChange statementsKnownSpec)) statementsKnownCard

/-- THE TIED CARD OF 'columnsevenlaw23.StatementsProgram'. -/
def statementsProgramCard : Claim7 := { stood := { row := statementsProgramRow, standIns := [], harness := (true, "78c84ee983fc924e7569ec77a325c7572dd6f2c979518f1882a11f0dde5dd8a0"), looks := true }, kinds := [], alts := [], laidByText := true, laidKinds := [.data, .listed, .data, .pinned], laidTests := true, laidLooks := .later }
def StatementsProgramCardSaid : Prop := Claim7.holds Tryz.pinned (.plain (OpenSpec.ofChange statementsProgramSpec)) statementsProgramCard

/-- THE TIED CARD OF 'columnsevenlaw23.StatementsSame'. -/
def statementsSameCard : Claim7 := { stood := { row := statementsSameRow, standIns := [], harness := (true, "78c84ee983fc924e7569ec77a325c7572dd6f2c979518f1882a11f0dde5dd8a0"), looks := true }, kinds := [], alts := [], laidByText := true, laidKinds := [.data, .listed, .data, .pinned], laidTests := true, laidLooks := .later }
def StatementsSameCardSaid : Prop := Claim7.holds Tryz.pinned (.plain (OpenSpec.ofChange statementsSameSpec)) statementsSameCard

/-- THE SECOND FORM's CARD OF 'columnsevenlaw23.StatementsKnown'. -/
def statementsKnownUptoCard : Claim7 := { stood := { row := statementsKnownUptoRow, standIns := [], harness := (true, "78c84ee983fc924e7569ec77a325c7572dd6f2c979518f1882a11f0dde5dd8a0"), looks := true }, kinds := [], alts := [], laidByText := true, laidKinds := [.data, .listed, .data, .pinned], laidTests := true, laidLooks := .later }
def StatementsKnownUptoCardSaid : Prop := Claim7.holds Tryz.pinned (.plain (OpenSpec.upto statementsKnownSpec)) statementsKnownUptoCard

/-- THE SECOND FORM's CARD OF 'columnsevenlaw23.StatementsProgram'. -/
def statementsProgramUptoCard : Claim7 := { stood := { row := statementsProgramUptoRow, standIns := [], harness := (true, "78c84ee983fc924e7569ec77a325c7572dd6f2c979518f1882a11f0dde5dd8a0"), looks := true }, kinds := [], alts := [], laidByText := true, laidKinds := [.data, .listed, .data, .pinned], laidTests := true, laidLooks := .later }
def StatementsProgramUptoCardSaid : Prop := Claim7.holds Tryz.pinned (.plain (OpenSpec.upto statementsProgramSpec)) statementsProgramUptoCard

/-- THE SECOND FORM's CARD OF 'columnsevenlaw23.StatementsSame'. -/
def statementsSameUptoCard : Claim7 := { stood := { row := statementsSameUptoRow, standIns := [], harness := (true, "78c84ee983fc924e7569ec77a325c7572dd6f2c979518f1882a11f0dde5dd8a0"), looks := true }, kinds := [], alts := [], laidByText := true, laidKinds := [.data, .listed, .data, .pinned], laidTests := true, laidLooks := .later }
def StatementsSameUptoCardSaid : Prop := Claim7.holds Tryz.pinned (.plain (OpenSpec.upto statementsSameSpec)) statementsSameUptoCard
end Rows
end Go.Proofs.YtgiadjbiimkbiaaGreatDoor
