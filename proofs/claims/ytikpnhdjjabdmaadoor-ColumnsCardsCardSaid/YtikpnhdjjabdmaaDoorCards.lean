/-
  DERIVED. GIVEN WITH THE SEED: THE CARDS: each row of YtikpnhdjjabdmaaDoorRows.lean that lists a variable, with what it lists TIED to the program's text (the seventh form; the later family's looks); each row that meets fmt, with fmt's text TOLD by the authors' own Lean function (tested against real Go, not proved from fmt's source: count such statements apart). THE CARD IS WHAT COUNTS. Prove the row's statement (the work); the ties are given (YtikpnhdjjabdmaaDoorTie.lean); close each card by the builder's one call (the guide's Derived/Test/ToyasCard.lean, 'card_holds'). Laid BY PROGRAM, IN A SANDBOX (cutbox-door.mjs). By AI agents, Wed Nov 11 2026. No macro, syntax, notation, axiom, sorry.
-/
import Derived.Test.YtikpnhdjjabdmaaDoorRows
import GoSem.ClaimSeven
namespace Go.Proofs.YtikpnhdjjabdmaaDoor
namespace Rows

/-- THE TIED CARD OF 'columnsevenlaw02.ColumnsWrite'. -/
def columnsWriteCard : Claim7 := { stood := { row := columnsWriteRow, standIns := [], harness := (true, "658df5cf42767b46d9a823304736c0e67a7ed38eed0af9aafd6f0b6813352f5c"), looks := false }, kinds := [], alts := [], laidByText := true, laidKinds := [.data, .data, .data, .data, .pinned], laidTests := true, laidLooks := .later }
def ColumnsWriteCardSaid : Prop := Claim7.holds Tryd.pinned (.plain (OpenSpec.ofChange columnsWriteSpec)) columnsWriteCard

/-- THE TIED CARD OF 'columnsevenlaw02.ColumnsLayout'. -/
def columnsLayoutCard : Claim7 := { stood := { row := columnsLayoutRow, standIns := [], harness := (true, "658df5cf42767b46d9a823304736c0e67a7ed38eed0af9aafd6f0b6813352f5c"), looks := false }, kinds := [], alts := [], laidByText := true, laidKinds := [.data, .data, .data, .data, .pinned], laidTests := true, laidLooks := .later }
def ColumnsLayoutCardSaid : Prop := Claim7.holds Tryd.pinned (.plain (OpenSpec.ofChange columnsLayoutSpec)) columnsLayoutCard

/-- THE TIED CARD OF 'columnsevenlaw02.ColumnsIgnored'. -/
def columnsIgnoredCard : Claim7 := { stood := { row := columnsIgnoredRow, standIns := [], harness := (true, "658df5cf42767b46d9a823304736c0e67a7ed38eed0af9aafd6f0b6813352f5c"), looks := false }, kinds := [], alts := [], laidByText := true, laidKinds := [.data, .data, .data, .data, .pinned], laidTests := true, laidLooks := .later }
def ColumnsIgnoredCardSaid : Prop := Claim7.holds Tryd.pinned (.plain (OpenSpec.ofChange columnsIgnoredSpec)) columnsIgnoredCard

/-- THE TIED CARD OF 'columnsevenlaw02.ColumnsMarks'. -/
def columnsMarksCard : Claim7 := { stood := { row := columnsMarksRow, standIns := [], harness := (true, "658df5cf42767b46d9a823304736c0e67a7ed38eed0af9aafd6f0b6813352f5c"), looks := false }, kinds := [], alts := [], laidByText := true, laidKinds := [.data, .data, .data, .data, .pinned], laidTests := true, laidLooks := .later }
def ColumnsMarksCardSaid : Prop := Claim7.holds Tryd.pinned (.plain (OpenSpec.ofChange columnsMarksSpec)) columnsMarksCard

/-- THE TIED CARD OF 'columnsevenlaw02.ColumnsCards'. -/
def columnsCardsCard : Claim7 := { stood := { row := columnsCardsRow, standIns := [], harness := (true, "658df5cf42767b46d9a823304736c0e67a7ed38eed0af9aafd6f0b6813352f5c"), looks := false }, kinds := [], alts := [], laidByText := true, laidKinds := [.data, .data, .data, .data, .pinned], laidTests := true, laidLooks := .later }
def ColumnsCardsCardSaid : Prop := Claim7.holds Tryd.pinned (.plain (OpenSpec.ofChange columnsCardsSpec)) columnsCardsCard

/-- THE SECOND FORM's CARD OF 'columnsevenlaw02.ColumnsWrite'. -/
def columnsWriteUptoCard : Claim7 := { stood := { row := columnsWriteUptoRow, standIns := [], harness := (true, "658df5cf42767b46d9a823304736c0e67a7ed38eed0af9aafd6f0b6813352f5c"), looks := false }, kinds := [], alts := [], laidByText := true, laidKinds := [.data, .data, .data, .data, .pinned], laidTests := true, laidLooks := .later }
def ColumnsWriteUptoCardSaid : Prop := Claim7.holds Tryd.pinned (.plain (OpenSpec.upto columnsWriteSpec)) columnsWriteUptoCard

/-- THE SECOND FORM's CARD OF 'columnsevenlaw02.ColumnsLayout'. -/
def columnsLayoutUptoCard : Claim7 := { stood := { row := columnsLayoutUptoRow, standIns := [], harness := (true, "658df5cf42767b46d9a823304736c0e67a7ed38eed0af9aafd6f0b6813352f5c"), looks := false }, kinds := [], alts := [], laidByText := true, laidKinds := [.data, .data, .data, .data, .pinned], laidTests := true, laidLooks := .later }
def ColumnsLayoutUptoCardSaid : Prop := Claim7.holds Tryd.pinned (.plain (OpenSpec.upto columnsLayoutSpec)) columnsLayoutUptoCard

/-- THE SECOND FORM's CARD OF 'columnsevenlaw02.ColumnsIgnored'. -/
def columnsIgnoredUptoCard : Claim7 := { stood := { row := columnsIgnoredUptoRow, standIns := [], harness := (true, "658df5cf42767b46d9a823304736c0e67a7ed38eed0af9aafd6f0b6813352f5c"), looks := false }, kinds := [], alts := [], laidByText := true, laidKinds := [.data, .data, .data, .data, .pinned], laidTests := true, laidLooks := .later }
def ColumnsIgnoredUptoCardSaid : Prop := Claim7.holds Tryd.pinned (.plain (OpenSpec.upto columnsIgnoredSpec)) columnsIgnoredUptoCard

/-- THE SECOND FORM's CARD OF 'columnsevenlaw02.ColumnsMarks'. -/
def columnsMarksUptoCard : Claim7 := { stood := { row := columnsMarksUptoRow, standIns := [], harness := (true, "658df5cf42767b46d9a823304736c0e67a7ed38eed0af9aafd6f0b6813352f5c"), looks := false }, kinds := [], alts := [], laidByText := true, laidKinds := [.data, .data, .data, .data, .pinned], laidTests := true, laidLooks := .later }
def ColumnsMarksUptoCardSaid : Prop := Claim7.holds Tryd.pinned (.plain (OpenSpec.upto columnsMarksSpec)) columnsMarksUptoCard

/-- THE SECOND FORM's CARD OF 'columnsevenlaw02.ColumnsCards'. -/
def columnsCardsUptoCard : Claim7 := { stood := { row := columnsCardsUptoRow, standIns := [], harness := (true, "658df5cf42767b46d9a823304736c0e67a7ed38eed0af9aafd6f0b6813352f5c"), looks := false }, kinds := [], alts := [], laidByText := true, laidKinds := [.data, .data, .data, .data, .pinned], laidTests := true, laidLooks := .later }
def ColumnsCardsUptoCardSaid : Prop := Claim7.holds Tryd.pinned (.plain (OpenSpec.upto columnsCardsSpec)) columnsCardsUptoCard
end Rows
end Go.Proofs.YtikpnhdjjabdmaaDoor
