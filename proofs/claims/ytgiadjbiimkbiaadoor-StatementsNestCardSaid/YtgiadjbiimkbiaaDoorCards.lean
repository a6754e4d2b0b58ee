/-
  DERIVED. GIVEN WITH THE SEED: THE CARDS: each row of YtgiadjbiimkbiaaDoorRows.lean that lists a variable, with what it lists TIED to the program's text (the seventh form; the later family's looks); each row that meets fmt, with fmt's text TOLD by the authors' own Lean function (tested against real Go, not proved from fmt's source: count such statements apart). THE CARD IS WHAT COUNTS. Prove the row's statement (the work); the ties are given (YtgiadjbiimkbiaaDoorTie.lean); close each card by the builder's one call (the guide's Derived/Test/ToyasCard.lean, 'card_holds'). Laid BY PROGRAM, IN A SANDBOX (cutbox-door.mjs). By AI agents, Wed Nov 11 2026. No macro, syntax, notation, axiom, sorry.
-/
import Derived.Test.YtgiadjbiimkbiaaDoorRows
import GoSem.ClaimSeven
namespace Go.Proofs.YtgiadjbiimkbiaaDoor
namespace Rows

/-- THE TIED CARD OF 'columnsevenlaw23.StatementsFaults'. -/
def statementsFaultsCard : Claim7 := { stood := { row := statementsFaultsRow, standIns := [], harness := (true, "4e96fdf098c94aa8ea411c7333dbb9992b4aa5cfbf31c49397a1a79991ba526b"), looks := true }, kinds := [], alts := [], laidByText := true, laidKinds := [.data, .listed, .data, .pinned], laidTests := true, laidLooks := .later }
def StatementsFaultsCardSaid : Prop := Claim7.holds Tryd.pinned (.plain (OpenSpec.ofChange statementsFaultsSpec)) statementsFaultsCard

/-- THE TIED CARD OF 'columnsevenlaw23.StatementsOperands'. -/
def statementsOperandsCard : Claim7 := { stood := { row := statementsOperandsRow, standIns := [], harness := (true, "4e96fdf098c94aa8ea411c7333dbb9992b4aa5cfbf31c49397a1a79991ba526b"), looks := true }, kinds := [], alts := [], laidByText := true, laidKinds := [.data, .listed, .data, .pinned], laidTests := true, laidLooks := .later }
def StatementsOperandsCardSaid : Prop := Claim7.holds Tryd.pinned (.plain (OpenSpec.ofChange statementsOperandsSpec)) statementsOperandsCard

/-- THE TIED CARD OF 'columnsevenlaw23.StatementsNest'. -/
def statementsNestCard : Claim7 := { stood := { row := statementsNestRow, standIns := [], harness := (true, "4e96fdf098c94aa8ea411c7333dbb9992b4aa5cfbf31c49397a1a79991ba526b"), looks := true }, kinds := [], alts := [], laidByText := true, laidKinds := [.data, .listed, .data, .pinned], laidTests := true, laidLooks := .later }
def StatementsNestCardSaid : Prop := Claim7.holds Tryd.pinned (.plain (OpenSpec.ofChange statementsNestSpec)) statementsNestCard

/-- THE SECOND FORM's CARD OF 'columnsevenlaw23.StatementsFaults'. -/
def statementsFaultsUptoCard : Claim7 := { stood := { row := statementsFaultsUptoRow, standIns := [], harness := (true, "4e96fdf098c94aa8ea411c7333dbb9992b4aa5cfbf31c49397a1a79991ba526b"), looks := true }, kinds := [], alts := [], laidByText := true, laidKinds := [.data, .listed, .data, .pinned], laidTests := true, laidLooks := .later }
def StatementsFaultsUptoCardSaid : Prop := Claim7.holds Tryd.pinned (.plain (OpenSpec.upto statementsFaultsSpec)) statementsFaultsUptoCard

/-- THE SECOND FORM's CARD OF 'columnsevenlaw23.StatementsOperands'. -/
def statementsOperandsUptoCard : Claim7 := { stood := { row := statementsOperandsUptoRow, standIns := [], harness := (true, "4e96fdf098c94aa8ea411c7333dbb9992b4aa5cfbf31c49397a1a79991ba526b"), looks := true }, kinds := [], alts := [], laidByText := true, laidKinds := [.data, .listed, .data, .pinned], laidTests := true, laidLooks := .later }
def StatementsOperandsUptoCardSaid : Prop := Claim7.holds Tryd.pinned (.plain (OpenSpec.upto statementsOperandsSpec)) statementsOperandsUptoCard

/-- THE SECOND FORM's CARD OF 'columnsevenlaw23.StatementsNest'. -/
def statementsNestUptoCard : Claim7 := { stood := { row := statementsNestUptoRow, standIns := [], harness := (true, "4e96fdf098c94aa8ea411c7333dbb9992b4aa5cfbf31c49397a1a79991ba526b"), looks := true }, kinds := [], alts := [], laidByText := true, laidKinds := [.data, .listed, .data, .pinned], laidTests := true, laidLooks := .later }
def StatementsNestUptoCardSaid : Prop := Claim7.holds Tryd.pinned (.plain (OpenSpec.upto statementsNestSpec)) statementsNestUptoCard
end Rows
end Go.Proofs.YtgiadjbiimkbiaaDoor
