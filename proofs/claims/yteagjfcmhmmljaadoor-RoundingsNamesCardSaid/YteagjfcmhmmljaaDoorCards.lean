/-
  DERIVED. GIVEN WITH THE SEED: THE CARDS: each row of YteagjfcmhmmljaaDoorRows.lean that lists a variable, with what it lists TIED to the program's text (the seventh form; the later family's looks); each row that meets fmt, with fmt's text TOLD by the authors' own Lean function (tested against real Go, not proved from fmt's source: count such statements apart). THE CARD IS WHAT COUNTS. Prove the row's statement (the work); the ties are given (YteagjfcmhmmljaaDoorTie.lean); close each card by the builder's one call (the guide's Derived/Test/ToyasCard.lean, 'card_holds'). Laid BY PROGRAM, IN A SANDBOX (cutbox-door.mjs). By AI agents, Wed Nov 11 2026. No macro, syntax, notation, axiom, sorry.
-/
import Derived.Test.YteagjfcmhmmljaaDoorRows
import GoSem.ClaimSeven
namespace Go.Proofs.YteagjfcmhmmljaaDoor
namespace Rows

/-- THE TIED CARD OF 'columnsevenlaw13.RoundingsNames'. -/
def roundingsNamesCard : Claim7 := { stood := { row := roundingsNamesRow, standIns := [], harness := (true, "4a1cdbd987e47713b27025333d649ad286732522404fe57f68e1573db805ecce"), looks := false }, kinds := [], alts := [], laidByText := true, laidKinds := [.data, .data, .data, .data, .widerDeep, .pinned], laidTests := true, laidLooks := .later }
def RoundingsNamesCardSaid : Prop := Claim7.holds Tryd.pinned (.plain (OpenSpec.ofChange roundingsNamesSpec)) roundingsNamesCard

/-- THE SECOND FORM's CARD OF 'columnsevenlaw13.RoundingsNames'. -/
def roundingsNamesUptoCard : Claim7 := { stood := { row := roundingsNamesUptoRow, standIns := [], harness := (true, "4a1cdbd987e47713b27025333d649ad286732522404fe57f68e1573db805ecce"), looks := false }, kinds := [], alts := [], laidByText := true, laidKinds := [.data, .data, .data, .data, .widerDeep, .pinned], laidTests := true, laidLooks := .later }
def RoundingsNamesUptoCardSaid : Prop := Claim7.holds Tryd.pinned (.plain (OpenSpec.upto roundingsNamesSpec)) roundingsNamesUptoCard
end Rows
end Go.Proofs.YteagjfcmhmmljaaDoor
