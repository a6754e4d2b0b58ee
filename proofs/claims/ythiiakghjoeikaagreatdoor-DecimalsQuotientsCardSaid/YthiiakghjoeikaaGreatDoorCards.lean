/-
  DERIVED. GIVEN WITH THE SEED: THE CARDS: each row of YthiiakghjoeikaaGreatDoorRows.lean that lists a variable, with what it lists TIED to the program's text (the seventh form; the later family's looks); each row that meets fmt, with fmt's text TOLD by the authors' own Lean function (tested against real Go, not proved from fmt's source: count such statements apart). THE CARD IS WHAT COUNTS. Prove the row's statement (the work); the ties are given (YthiiakghjoeikaaGreatDoorTie.lean); close each card by the builder's one call (the guide's Derived/Test/ToyasCard.lean, 'card_holds'). Laid BY PROGRAM, IN A SANDBOX (cutbox-door.mjs). By AI agents, Wed Nov 11 2026. No macro, syntax, notation, axiom, sorry.
-/
import Derived.Test.YthiiakghjoeikaaGreatDoorRows
import GoSem.ClaimSeven
namespace Go.Proofs.YthiiakghjoeikaaGreatDoor
namespace Rows

/-- THE TIED CARD OF 'columnsevenlaw12.DecimalsTexts'. -/
def decimalsTextsCard : Claim7 := { stood := { row := decimalsTextsRow, standIns := [], harness := (true, "5be735e3cb480b8b8525df13a9525f8a7ce4f2eee4726db006915137924d27f7"), looks := true }, kinds := [], alts := [], laidByText := true, laidKinds := [.data, .data, .data, .data, .sentinel, .sentinel, .pinned], laidTests := true, laidLooks := .later }
def DecimalsTextsCardSaid : Prop := Claim7.holds Tryz.pinned (.plain (OpenSpec.ofChange decimalsTextsSpec)) decimalsTextsCard

/-- THE TIED CARD OF 'columnsevenlaw12.DecimalsProducts'. -/
def decimalsProductsCard : Claim7 := { stood := { row := decimalsProductsRow, standIns := [], harness := (true, "5be735e3cb480b8b8525df13a9525f8a7ce4f2eee4726db006915137924d27f7"), looks := true }, kinds := [], alts := [], laidByText := true, laidKinds := [.data, .data, .data, .data, .sentinel, .sentinel, .pinned], laidTests := true, laidLooks := .later }
def DecimalsProductsCardSaid : Prop := Claim7.holds Tryz.pinned (.plain (OpenSpec.ofChange decimalsProductsSpec)) decimalsProductsCard

/-- THE TIED CARD OF 'columnsevenlaw12.DecimalsQuotients'. -/
def decimalsQuotientsCard : Claim7 := { stood := { row := decimalsQuotientsRow, standIns := [], harness := (true, "5be735e3cb480b8b8525df13a9525f8a7ce4f2eee4726db006915137924d27f7"), looks := true }, kinds := [], alts := [], laidByText := true, laidKinds := [.data, .data, .data, .data, .sentinel, .sentinel, .pinned], laidTests := true, laidLooks := .later }
def DecimalsQuotientsCardSaid : Prop := Claim7.holds Tryz.pinned (.plain (OpenSpec.ofChange decimalsQuotientsSpec)) decimalsQuotientsCard

/-- THE TIED CARD OF 'columnsevenlaw12.DecimalsPowers'. -/
def decimalsPowersCard : Claim7 := { stood := { row := decimalsPowersRow, standIns := [], harness := (true, "5be735e3cb480b8b8525df13a9525f8a7ce4f2eee4726db006915137924d27f7"), looks := true }, kinds := [], alts := [], laidByText := true, laidKinds := [.data, .data, .data, .data, .sentinel, .sentinel, .pinned], laidTests := true, laidLooks := .later }
def DecimalsPowersCardSaid : Prop := Claim7.holds Tryz.pinned (.plain (OpenSpec.ofChange decimalsPowersSpec)) decimalsPowersCard

/-- THE TIED CARD OF 'columnsevenlaw12.DecimalsCuts'. -/
def decimalsCutsCard : Claim7 := { stood := { row := decimalsCutsRow, standIns := [], harness := (true, "5be735e3cb480b8b8525df13a9525f8a7ce4f2eee4726db006915137924d27f7"), looks := true }, kinds := [], alts := [], laidByText := true, laidKinds := [.data, .data, .data, .data, .sentinel, .sentinel, .pinned], laidTests := true, laidLooks := .later }
def DecimalsCutsCardSaid : Prop := Claim7.holds Tryz.pinned (.plain (OpenSpec.ofChange decimalsCutsSpec)) decimalsCutsCard

/-- THE TIED CARD OF 'columnsevenlaw12.DecimalsNew'. -/
def decimalsNewCard : Claim7 := { stood := { row := decimalsNewRow, standIns := [], harness := (true, "5be735e3cb480b8b8525df13a9525f8a7ce4f2eee4726db006915137924d27f7"), looks := true }, kinds := [], alts := [], laidByText := true, laidKinds := [.data, .data, .data, .data, .sentinel, .sentinel, .pinned], laidTests := true, laidLooks := .later }
def DecimalsNewCardSaid : Prop := Claim7.holds Tryz.pinned (.plain (OpenSpec.ofChange decimalsNewSpec)) decimalsNewCard

/-- THE TIED CARD OF 'columnsevenlaw12.DecimalsSums'. -/
def decimalsSumsCard : Claim7 := { stood := { row := decimalsSumsRow, standIns := [], harness := (true, "5be735e3cb480b8b8525df13a9525f8a7ce4f2eee4726db006915137924d27f7"), looks := true }, kinds := [], alts := [], laidByText := true, laidKinds := [.data, .data, .data, .data, .sentinel, .sentinel, .pinned], laidTests := true, laidLooks := .later }
def DecimalsSumsCardSaid : Prop := Claim7.holds Tryz.pinned (.plain (OpenSpec.ofChange decimalsSumsSpec)) decimalsSumsCard

/-- THE TIED CARD OF 'columnsevenlaw12.DecimalsInts'. -/
def decimalsIntsCard : Claim7 := { stood := { row := decimalsIntsRow, standIns := [], harness := (true, "5be735e3cb480b8b8525df13a9525f8a7ce4f2eee4726db006915137924d27f7"), looks := true }, kinds := [], alts := [], laidByText := true, laidKinds := [.data, .data, .data, .data, .sentinel, .sentinel, .pinned], laidTests := true, laidLooks := .later }
def DecimalsIntsCardSaid : Prop := Claim7.holds Tryz.pinned (.plain (OpenSpec.ofChange decimalsIntsSpec)) decimalsIntsCard

/-- THE TIED CARD OF 'columnsevenlaw12.DecimalsOrder'. -/
def decimalsOrderCard : Claim7 := { stood := { row := decimalsOrderRow, standIns := [], harness := (true, "5be735e3cb480b8b8525df13a9525f8a7ce4f2eee4726db006915137924d27f7"), looks := true }, kinds := [], alts := [], laidByText := true, laidKinds := [.data, .data, .data, .data, .sentinel, .sentinel, .pinned], laidTests := true, laidLooks := .later }
def DecimalsOrderCardSaid : Prop := Claim7.holds Tryz.pinned (.plain (OpenSpec.ofChange decimalsOrderSpec)) decimalsOrderCard

/-- THE TIED CARD OF 'columnsevenlaw12.DecimalsErrors'. -/
def decimalsErrorsCard : Claim7 := { stood := { row := decimalsErrorsRow, standIns := [], harness := (true, "5be735e3cb480b8b8525df13a9525f8a7ce4f2eee4726db006915137924d27f7"), looks := true }, kinds := [], alts := [], laidByText := true, laidKinds := [.data, .data, .data, .data, .sentinel, .sentinel, .pinned], laidTests := true, laidLooks := .later }
def DecimalsErrorsCardSaid : Prop := Claim7.holds Tryz.pinned (.plain (OpenSpec.ofChange decimalsErrorsSpec)) decimalsErrorsCard

/-- THE SECOND FORM's CARD OF 'columnsevenlaw12.DecimalsTexts'. -/
def decimalsTextsUptoCard : Claim7 := { stood := { row := decimalsTextsUptoRow, standIns := [], harness := (true, "5be735e3cb480b8b8525df13a9525f8a7ce4f2eee4726db006915137924d27f7"), looks := true }, kinds := [], alts := [], laidByText := true, laidKinds := [.data, .data, .data, .data, .sentinel, .sentinel, .pinned], laidTests := true, laidLooks := .later }
def DecimalsTextsUptoCardSaid : Prop := Claim7.holds Tryz.pinned (.plain (OpenSpec.upto decimalsTextsSpec)) decimalsTextsUptoCard

/-- THE SECOND FORM's CARD OF 'columnsevenlaw12.DecimalsProducts'. -/
def decimalsProductsUptoCard : Claim7 := { stood := { row := decimalsProductsUptoRow, standIns := [], harness := (true, "5be735e3cb480b8b8525df13a9525f8a7ce4f2eee4726db006915137924d27f7"), looks := true }, kinds := [], alts := [], laidByText := true, laidKinds := [.data, .data, .data, .data, .sentinel, .sentinel, .pinned], laidTests := true, laidLooks := .later }
def DecimalsProductsUptoCardSaid : Prop := Claim7.holds Tryz.pinned (.plain (OpenSpec.upto decimalsProductsSpec)) decimalsProductsUptoCard

/-- THE SECOND FORM's CARD OF 'columnsevenlaw12.DecimalsQuotients'. -/
def decimalsQuotientsUptoCard : Claim7 := { stood := { row := decimalsQuotientsUptoRow, standIns := [], harness := (true, "5be735e3cb480b8b8525df13a9525f8a7ce4f2eee4726db006915137924d27f7"), looks := true }, kinds := [], alts := [], laidByText := true, laidKinds := [.data, .data, .data, .data, .sentinel, .sentinel, .pinned], laidTests := true, laidLooks := .later }
def DecimalsQuotientsUptoCardSaid : Prop := Claim7.holds Tryz.pinned (.plain (OpenSpec.upto decimalsQuotientsSpec)) decimalsQuotientsUptoCard

/-- THE SECOND FORM's CARD OF 'columnsevenlaw12.DecimalsPowers'. -/
def decimalsPowersUptoCard : Claim7 := { stood := { row := decimalsPowersUptoRow, standIns := [], harness := (true, "5be735e3cb480b8b8525df13a9525f8a7ce4f2eee4726db006915137924d27f7"), looks := true }, kinds := [], alts := [], laidByText := true, laidKinds := [.data, .data, .data, .data, .sentinel, .sentinel, .pinned], laidTests := true, laidLooks := .later }
def DecimalsPowersUptoCardSaid : Prop := Claim7.holds Tryz.pinned (.plain (OpenSpec.upto decimalsPowersSpec)) decimalsPowersUptoCard

/-- THE SECOND FORM's CARD OF 'columnsevenlaw12.DecimalsCuts'. -/
def decimalsCutsUptoCard : Claim7 := { stood := { row := decimalsCutsUptoRow, standIns := [], harness := (true, "5be735e3cb480b8b8525df13a9525f8a7ce4f2eee4726db006915137924d27f7"), looks := true }, kinds := [], alts := [], laidByText := true, laidKinds := [.data, .data, .data, .data, .sentinel, .sentinel, .pinned], laidTests := true, laidLooks := .later }
def DecimalsCutsUptoCardSaid : Prop := Claim7.holds Tryz.pinned (.plain (OpenSpec.upto decimalsCutsSpec)) decimalsCutsUptoCard

/-- THE SECOND FORM's CARD OF 'columnsevenlaw12.DecimalsNew'. -/
def decimalsNewUptoCard : Claim7 := { stood := { row := decimalsNewUptoRow, standIns := [], harness := (true, "5be735e3cb480b8b8525df13a9525f8a7ce4f2eee4726db006915137924d27f7"), looks := true }, kinds := [], alts := [], laidByText := true, laidKinds := [.data, .data, .data, .data, .sentinel, .sentinel, .pinned], laidTests := true, laidLooks := .later }
def DecimalsNewUptoCardSaid : Prop := Claim7.holds Tryz.pinned (.plain (OpenSpec.upto decimalsNewSpec)) decimalsNewUptoCard

/-- THE SECOND FORM's CARD OF 'columnsevenlaw12.DecimalsSums'. -/
def decimalsSumsUptoCard : Claim7 := { stood := { row := decimalsSumsUptoRow, standIns := [], harness := (true, "5be735e3cb480b8b8525df13a9525f8a7ce4f2eee4726db006915137924d27f7"), looks := true }, kinds := [], alts := [], laidByText := true, laidKinds := [.data, .data, .data, .data, .sentinel, .sentinel, .pinned], laidTests := true, laidLooks := .later }
def DecimalsSumsUptoCardSaid : Prop := Claim7.holds Tryz.pinned (.plain (OpenSpec.upto decimalsSumsSpec)) decimalsSumsUptoCard

/-- THE SECOND FORM's CARD OF 'columnsevenlaw12.DecimalsInts'. -/
def decimalsIntsUptoCard : Claim7 := { stood := { row := decimalsIntsUptoRow, standIns := [], harness := (true, "5be735e3cb480b8b8525df13a9525f8a7ce4f2eee4726db006915137924d27f7"), looks := true }, kinds := [], alts := [], laidByText := true, laidKinds := [.data, .data, .data, .data, .sentinel, .sentinel, .pinned], laidTests := true, laidLooks := .later }
def DecimalsIntsUptoCardSaid : Prop := Claim7.holds Tryz.pinned (.plain (OpenSpec.upto decimalsIntsSpec)) decimalsIntsUptoCard

/-- THE SECOND FORM's CARD OF 'columnsevenlaw12.DecimalsOrder'. -/
def decimalsOrderUptoCard : Claim7 := { stood := { row := decimalsOrderUptoRow, standIns := [], harness := (true, "5be735e3cb480b8b8525df13a9525f8a7ce4f2eee4726db006915137924d27f7"), looks := true }, kinds := [], alts := [], laidByText := true, laidKinds := [.data, .data, .data, .data, .sentinel, .sentinel, .pinned], laidTests := true, laidLooks := .later }
def DecimalsOrderUptoCardSaid : Prop := Claim7.holds Tryz.pinned (.plain (OpenSpec.upto decimalsOrderSpec)) decimalsOrderUptoCard

/-- THE SECOND FORM's CARD OF 'columnsevenlaw12.DecimalsErrors'. -/
def decimalsErrorsUptoCard : Claim7 := { stood := { row := decimalsErrorsUptoRow, standIns := [], harness := (true, "5be735e3cb480b8b8525df13a9525f8a7ce4f2eee4726db006915137924d27f7"), looks := true }, kinds := [], alts := [], laidByText := true, laidKinds := [.data, .data, .data, .data, .sentinel, .sentinel, .pinned], laidTests := true, laidLooks := .later }
def DecimalsErrorsUptoCardSaid : Prop := Claim7.holds Tryz.pinned (.plain (OpenSpec.upto decimalsErrorsSpec)) decimalsErrorsUptoCard
end Rows
end Go.Proofs.YthiiakghjoeikaaGreatDoor
