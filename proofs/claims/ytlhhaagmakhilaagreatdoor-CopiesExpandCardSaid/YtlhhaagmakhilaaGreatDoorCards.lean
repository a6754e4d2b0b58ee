/-
  DERIVED. GIVEN WITH THE SEED: THE CARDS: each row of YtlhhaagmakhilaaGreatDoorRows.lean that lists a variable, with what it lists TIED to the program's text (the seventh form; the later family's looks); each row that meets fmt, with fmt's text TOLD by the authors' own Lean function (tested against real Go, not proved from fmt's source: count such statements apart). THE CARD IS WHAT COUNTS. Prove the row's statement (the work); the ties are given (YtlhhaagmakhilaaGreatDoorTie.lean); close each card by the builder's one call (the guide's Derived/Test/ToyasCard.lean, 'card_holds'). Laid BY PROGRAM, IN A SANDBOX (cutbox-door.mjs). By AI agents, Wed Nov 11 2026. No macro, syntax, notation, axiom, sorry.
-/
import Derived.Test.YtlhhaagmakhilaaGreatDoorRows
import GoSem.ClaimSeven
namespace Go.Proofs.YtlhhaagmakhilaaGreatDoor
namespace Rows

/-- THE TIED CARD OF 'columnsevenlaw04.CopiesExpand'. -/
def copiesExpandCard : Claim7 := { stood := { row := copiesExpandRow, standIns := [], harness := (true, "9ee8e1c0f1b150407c7c8b8cb125ce558c85fa97b7b921bf9aad1aa744f2b1a7"), looks := false }, kinds := [], alts := [], laidByText := true, laidKinds := [.data, .pinned], laidTests := true, laidLooks := .later }
def CopiesExpandCardSaid : Prop := Claim7.holds Tryz.pinned (.plain (OpenSpec.ofChange copiesExpandSpec)) copiesExpandCard

/-- THE TIED CARD OF 'columnsevenlaw04.CopiesReplace'. -/
def copiesReplaceCard : Claim7 := { stood := { row := copiesReplaceRow, standIns := [], harness := (true, "9ee8e1c0f1b150407c7c8b8cb125ce558c85fa97b7b921bf9aad1aa744f2b1a7"), looks := false }, kinds := [], alts := [], laidByText := true, laidKinds := [.data, .pinned], laidTests := true, laidLooks := .later }
def CopiesReplaceCardSaid : Prop := Claim7.holds Tryz.pinned (.plain (OpenSpec.ofChange copiesReplaceSpec)) copiesReplaceCard

/-- THE TIED CARD OF 'columnsevenlaw04.CopiesNone'. -/
def copiesNoneCard : Claim7 := { stood := { row := copiesNoneRow, standIns := [], harness := (true, "9ee8e1c0f1b150407c7c8b8cb125ce558c85fa97b7b921bf9aad1aa744f2b1a7"), looks := false }, kinds := [], alts := [], laidByText := true, laidKinds := [.data, .pinned], laidTests := true, laidLooks := .later }
def CopiesNoneCardSaid : Prop := Claim7.holds Tryz.pinned (.plain (OpenSpec.ofChange copiesNoneSpec)) copiesNoneCard

/-- THE TIED CARD OF 'columnsevenlaw04.CopiesLimits'. -/
def copiesLimitsCard : Claim7 := { stood := { row := copiesLimitsRow, standIns := [], harness := (true, "9ee8e1c0f1b150407c7c8b8cb125ce558c85fa97b7b921bf9aad1aa744f2b1a7"), looks := false }, kinds := [], alts := [], laidByText := true, laidKinds := [.data, .pinned], laidTests := true, laidLooks := .later }
def CopiesLimitsCardSaid : Prop := Claim7.holds Tryz.pinned (.plain (OpenSpec.ofChange copiesLimitsSpec)) copiesLimitsCard

/-- THE TIED CARD OF 'columnsevenlaw04.CopiesDeep'. -/
def copiesDeepCard : Claim7 := { stood := { row := copiesDeepRow, standIns := [], harness := (true, "9ee8e1c0f1b150407c7c8b8cb125ce558c85fa97b7b921bf9aad1aa744f2b1a7"), looks := false }, kinds := [], alts := [], laidByText := true, laidKinds := [.data, .pinned], laidTests := true, laidLooks := .later }
def CopiesDeepCardSaid : Prop := Claim7.holds Tryz.pinned (.plain (OpenSpec.ofChange copiesDeepSpec)) copiesDeepCard

/-- THE TIED CARD OF 'columnsevenlaw04.CopiesUses'. -/
def copiesUsesCard : Claim7 := { stood := { row := copiesUsesRow, standIns := [], harness := (true, "9ee8e1c0f1b150407c7c8b8cb125ce558c85fa97b7b921bf9aad1aa744f2b1a7"), looks := false }, kinds := [], alts := [], laidByText := true, laidKinds := [.data, .pinned], laidTests := true, laidLooks := .later }
def CopiesUsesCardSaid : Prop := Claim7.holds Tryz.pinned (.plain (OpenSpec.ofChange copiesUsesSpec)) copiesUsesCard

/-- THE SECOND FORM's CARD OF 'columnsevenlaw04.CopiesExpand'. -/
def copiesExpandUptoCard : Claim7 := { stood := { row := copiesExpandUptoRow, standIns := [], harness := (true, "9ee8e1c0f1b150407c7c8b8cb125ce558c85fa97b7b921bf9aad1aa744f2b1a7"), looks := false }, kinds := [], alts := [], laidByText := true, laidKinds := [.data, .pinned], laidTests := true, laidLooks := .later }
def CopiesExpandUptoCardSaid : Prop := Claim7.holds Tryz.pinned (.plain (OpenSpec.upto copiesExpandSpec)) copiesExpandUptoCard

/-- THE SECOND FORM's CARD OF 'columnsevenlaw04.CopiesReplace'. -/
def copiesReplaceUptoCard : Claim7 := { stood := { row := copiesReplaceUptoRow, standIns := [], harness := (true, "9ee8e1c0f1b150407c7c8b8cb125ce558c85fa97b7b921bf9aad1aa744f2b1a7"), looks := false }, kinds := [], alts := [], laidByText := true, laidKinds := [.data, .pinned], laidTests := true, laidLooks := .later }
def CopiesReplaceUptoCardSaid : Prop := Claim7.holds Tryz.pinned (.plain (OpenSpec.upto copiesReplaceSpec)) copiesReplaceUptoCard

/-- THE SECOND FORM's CARD OF 'columnsevenlaw04.CopiesNone'. -/
def copiesNoneUptoCard : Claim7 := { stood := { row := copiesNoneUptoRow, standIns := [], harness := (true, "9ee8e1c0f1b150407c7c8b8cb125ce558c85fa97b7b921bf9aad1aa744f2b1a7"), looks := false }, kinds := [], alts := [], laidByText := true, laidKinds := [.data, .pinned], laidTests := true, laidLooks := .later }
def CopiesNoneUptoCardSaid : Prop := Claim7.holds Tryz.pinned (.plain (OpenSpec.upto copiesNoneSpec)) copiesNoneUptoCard

/-- THE SECOND FORM's CARD OF 'columnsevenlaw04.CopiesLimits'. -/
def copiesLimitsUptoCard : Claim7 := { stood := { row := copiesLimitsUptoRow, standIns := [], harness := (true, "9ee8e1c0f1b150407c7c8b8cb125ce558c85fa97b7b921bf9aad1aa744f2b1a7"), looks := false }, kinds := [], alts := [], laidByText := true, laidKinds := [.data, .pinned], laidTests := true, laidLooks := .later }
def CopiesLimitsUptoCardSaid : Prop := Claim7.holds Tryz.pinned (.plain (OpenSpec.upto copiesLimitsSpec)) copiesLimitsUptoCard

/-- THE SECOND FORM's CARD OF 'columnsevenlaw04.CopiesDeep'. -/
def copiesDeepUptoCard : Claim7 := { stood := { row := copiesDeepUptoRow, standIns := [], harness := (true, "9ee8e1c0f1b150407c7c8b8cb125ce558c85fa97b7b921bf9aad1aa744f2b1a7"), looks := false }, kinds := [], alts := [], laidByText := true, laidKinds := [.data, .pinned], laidTests := true, laidLooks := .later }
def CopiesDeepUptoCardSaid : Prop := Claim7.holds Tryz.pinned (.plain (OpenSpec.upto copiesDeepSpec)) copiesDeepUptoCard

/-- THE SECOND FORM's CARD OF 'columnsevenlaw04.CopiesUses'. -/
def copiesUsesUptoCard : Claim7 := { stood := { row := copiesUsesUptoRow, standIns := [], harness := (true, "9ee8e1c0f1b150407c7c8b8cb125ce558c85fa97b7b921bf9aad1aa744f2b1a7"), looks := false }, kinds := [], alts := [], laidByText := true, laidKinds := [.data, .pinned], laidTests := true, laidLooks := .later }
def CopiesUsesUptoCardSaid : Prop := Claim7.holds Tryz.pinned (.plain (OpenSpec.upto copiesUsesSpec)) copiesUsesUptoCard
end Rows
end Go.Proofs.YtlhhaagmakhilaaGreatDoor
