/-
  DERIVED. GIVEN WITH THE SEED: THE CARDS: each row of YtgnebodlkfblcaaDoorRows.lean that lists a variable, with what it lists TIED to the program's text (the seventh form; the later family's looks); each row that meets fmt, with fmt's text TOLD by the authors' own Lean function (tested against real Go, not proved from fmt's source: count such statements apart). THE CARD IS WHAT COUNTS. Prove the row's statement (the work); the ties are given (YtgnebodlkfblcaaDoorTie.lean); close each card by the builder's one call (the guide's Derived/Test/ToyasCard.lean, 'card_holds'). Laid BY PROGRAM, IN A SANDBOX (cutbox-door.mjs). By AI agents, Wed Nov 11 2026. No macro, syntax, notation, axiom, sorry.
-/
import Derived.Test.YtgnebodlkfblcaaDoorRows
import GoSem.ClaimSeven
namespace Go.Proofs.YtgnebodlkfblcaaDoor
namespace Rows

/-- THE TIED CARD OF 'columnsevenlaw18.PairsAll'. -/
def pairsAllCard : Claim7 := { stood := { row := pairsAllRow, standIns := [], harness := (true, "a6234813a70e7ad97cd6e458d5b2313222db48a3458d4a649579e922409dfab9"), looks := false }, kinds := [], alts := [], laidByText := true, laidKinds := [.data, .data, .data], laidTests := true, laidLooks := .later }
def PairsAllCardSaid : Prop := Claim7.holds Tryd.pinned (.plain (OpenSpec.ofChange pairsAllSpec)) pairsAllCard

/-- THE TIED CARD OF 'columnsevenlaw18.PairsSwap'. -/
def pairsSwapCard : Claim7 := { stood := { row := pairsSwapRow, standIns := [], harness := (true, "a6234813a70e7ad97cd6e458d5b2313222db48a3458d4a649579e922409dfab9"), looks := false }, kinds := [], alts := [], laidByText := true, laidKinds := [.data, .data, .data], laidTests := true, laidLooks := .later }
def PairsSwapCardSaid : Prop := Claim7.holds Tryd.pinned (.plain (OpenSpec.ofChange pairsSwapSpec)) pairsSwapCard

/-- THE TIED CARD OF 'columnsevenlaw18.PairsSelf'. -/
def pairsSelfCard : Claim7 := { stood := { row := pairsSelfRow, standIns := [], harness := (true, "a6234813a70e7ad97cd6e458d5b2313222db48a3458d4a649579e922409dfab9"), looks := false }, kinds := [], alts := [], laidByText := true, laidKinds := [.data, .data, .data], laidTests := true, laidLooks := .later }
def PairsSelfCardSaid : Prop := Claim7.holds Tryd.pinned (.plain (OpenSpec.ofChange pairsSelfSpec)) pairsSelfCard

/-- THE TIED CARD OF 'columnsevenlaw18.PairsPath'. -/
def pairsPathCard : Claim7 := { stood := { row := pairsPathRow, standIns := [], harness := (true, "a6234813a70e7ad97cd6e458d5b2313222db48a3458d4a649579e922409dfab9"), looks := false }, kinds := [], alts := [], laidByText := true, laidKinds := [.data, .data, .data], laidTests := true, laidLooks := .later }
def PairsPathCardSaid : Prop := Claim7.holds Tryd.pinned (.plain (OpenSpec.ofChange pairsPathSpec)) pairsPathCard

/-- THE TIED CARD OF 'columnsevenlaw18.PairsErrors'. -/
def pairsErrorsCard : Claim7 := { stood := { row := pairsErrorsRow, standIns := [], harness := (true, "a6234813a70e7ad97cd6e458d5b2313222db48a3458d4a649579e922409dfab9"), looks := false }, kinds := [], alts := [], laidByText := true, laidKinds := [.data, .data, .data], laidTests := true, laidLooks := .later }
def PairsErrorsCardSaid : Prop := Claim7.holds Tryd.pinned (.plain (OpenSpec.ofChange pairsErrorsSpec)) pairsErrorsCard

/-- THE SECOND FORM's CARD OF 'columnsevenlaw18.PairsAll'. -/
def pairsAllUptoCard : Claim7 := { stood := { row := pairsAllUptoRow, standIns := [], harness := (true, "a6234813a70e7ad97cd6e458d5b2313222db48a3458d4a649579e922409dfab9"), looks := false }, kinds := [], alts := [], laidByText := true, laidKinds := [.data, .data, .data], laidTests := true, laidLooks := .later }
def PairsAllUptoCardSaid : Prop := Claim7.holds Tryd.pinned (.plain (OpenSpec.upto pairsAllSpec)) pairsAllUptoCard

/-- THE SECOND FORM's CARD OF 'columnsevenlaw18.PairsSwap'. -/
def pairsSwapUptoCard : Claim7 := { stood := { row := pairsSwapUptoRow, standIns := [], harness := (true, "a6234813a70e7ad97cd6e458d5b2313222db48a3458d4a649579e922409dfab9"), looks := false }, kinds := [], alts := [], laidByText := true, laidKinds := [.data, .data, .data], laidTests := true, laidLooks := .later }
def PairsSwapUptoCardSaid : Prop := Claim7.holds Tryd.pinned (.plain (OpenSpec.upto pairsSwapSpec)) pairsSwapUptoCard

/-- THE SECOND FORM's CARD OF 'columnsevenlaw18.PairsSelf'. -/
def pairsSelfUptoCard : Claim7 := { stood := { row := pairsSelfUptoRow, standIns := [], harness := (true, "a6234813a70e7ad97cd6e458d5b2313222db48a3458d4a649579e922409dfab9"), looks := false }, kinds := [], alts := [], laidByText := true, laidKinds := [.data, .data, .data], laidTests := true, laidLooks := .later }
def PairsSelfUptoCardSaid : Prop := Claim7.holds Tryd.pinned (.plain (OpenSpec.upto pairsSelfSpec)) pairsSelfUptoCard

/-- THE SECOND FORM's CARD OF 'columnsevenlaw18.PairsPath'. -/
def pairsPathUptoCard : Claim7 := { stood := { row := pairsPathUptoRow, standIns := [], harness := (true, "a6234813a70e7ad97cd6e458d5b2313222db48a3458d4a649579e922409dfab9"), looks := false }, kinds := [], alts := [], laidByText := true, laidKinds := [.data, .data, .data], laidTests := true, laidLooks := .later }
def PairsPathUptoCardSaid : Prop := Claim7.holds Tryd.pinned (.plain (OpenSpec.upto pairsPathSpec)) pairsPathUptoCard

/-- THE SECOND FORM's CARD OF 'columnsevenlaw18.PairsErrors'. -/
def pairsErrorsUptoCard : Claim7 := { stood := { row := pairsErrorsUptoRow, standIns := [], harness := (true, "a6234813a70e7ad97cd6e458d5b2313222db48a3458d4a649579e922409dfab9"), looks := false }, kinds := [], alts := [], laidByText := true, laidKinds := [.data, .data, .data], laidTests := true, laidLooks := .later }
def PairsErrorsUptoCardSaid : Prop := Claim7.holds Tryd.pinned (.plain (OpenSpec.upto pairsErrorsSpec)) pairsErrorsUptoCard
end Rows
end Go.Proofs.YtgnebodlkfblcaaDoor
