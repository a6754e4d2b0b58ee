/-
  DERIVED. GIVEN WITH THE SEED: THE CARDS: each row of YtmadddihphkmoaaDoorRows.lean that lists a variable, with what it lists TIED to the program's text (the seventh form; the later family's looks); each row that meets fmt, with fmt's text TOLD by the authors' own Lean function (tested against real Go, not proved from fmt's source: count such statements apart). THE CARD IS WHAT COUNTS. Prove the row's statement (the work); the ties are given (YtmadddihphkmoaaDoorTie.lean); close each card by the builder's one call (the guide's Derived/Test/ToyasCard.lean, 'card_holds'). Laid BY PROGRAM, IN A SANDBOX (cutbox-door.mjs). By AI agents, Wed Nov 11 2026. No macro, syntax, notation, axiom, sorry.
-/
import Derived.Test.YtmadddihphkmoaaDoorRows
import GoSem.ClaimSeven
namespace Go.Proofs.YtmadddihphkmoaaDoor
namespace Rows

/-- THE TIED CARD OF 'columnsevenlaw03.TokensPlaces'. -/
def tokensPlacesCard : Claim7 := { stood := { row := tokensPlacesRow, standIns := [], harness := (true, "571143cdc597b075a2a28b03c102e085505d4d7d9a08601a2bc59c65fcc6f1fe"), looks := false }, kinds := [], alts := [], laidByText := true, laidKinds := [.data, .pinned], laidTests := true, laidLooks := .later }
def TokensPlacesCardSaid : Prop := Claim7.holds Tryd.pinned (.plain (OpenSpec.ofChange tokensPlacesSpec)) tokensPlacesCard

/-- THE TIED CARD OF 'columnsevenlaw03.TokensSplit'. -/
def tokensSplitCard : Claim7 := { stood := { row := tokensSplitRow, standIns := [], harness := (true, "571143cdc597b075a2a28b03c102e085505d4d7d9a08601a2bc59c65fcc6f1fe"), looks := false }, kinds := [], alts := [], laidByText := true, laidKinds := [.data, .pinned], laidTests := true, laidLooks := .later }
def TokensSplitCardSaid : Prop := Claim7.holds Tryd.pinned (.plain (OpenSpec.ofChange tokensSplitSpec)) tokensSplitCard

/-- THE TIED CARD OF 'columnsevenlaw03.TokensText'. -/
def tokensTextCard : Claim7 := { stood := { row := tokensTextRow, standIns := [], harness := (true, "571143cdc597b075a2a28b03c102e085505d4d7d9a08601a2bc59c65fcc6f1fe"), looks := false }, kinds := [], alts := [], laidByText := true, laidKinds := [.data, .pinned], laidTests := true, laidLooks := .later }
def TokensTextCardSaid : Prop := Claim7.holds Tryd.pinned (.plain (OpenSpec.ofChange tokensTextSpec)) tokensTextCard

/-- THE SECOND FORM's CARD OF 'columnsevenlaw03.TokensPlaces'. -/
def tokensPlacesUptoCard : Claim7 := { stood := { row := tokensPlacesUptoRow, standIns := [], harness := (true, "571143cdc597b075a2a28b03c102e085505d4d7d9a08601a2bc59c65fcc6f1fe"), looks := false }, kinds := [], alts := [], laidByText := true, laidKinds := [.data, .pinned], laidTests := true, laidLooks := .later }
def TokensPlacesUptoCardSaid : Prop := Claim7.holds Tryd.pinned (.plain (OpenSpec.upto tokensPlacesSpec)) tokensPlacesUptoCard

/-- THE SECOND FORM's CARD OF 'columnsevenlaw03.TokensSplit'. -/
def tokensSplitUptoCard : Claim7 := { stood := { row := tokensSplitUptoRow, standIns := [], harness := (true, "571143cdc597b075a2a28b03c102e085505d4d7d9a08601a2bc59c65fcc6f1fe"), looks := false }, kinds := [], alts := [], laidByText := true, laidKinds := [.data, .pinned], laidTests := true, laidLooks := .later }
def TokensSplitUptoCardSaid : Prop := Claim7.holds Tryd.pinned (.plain (OpenSpec.upto tokensSplitSpec)) tokensSplitUptoCard

/-- THE SECOND FORM's CARD OF 'columnsevenlaw03.TokensText'. -/
def tokensTextUptoCard : Claim7 := { stood := { row := tokensTextUptoRow, standIns := [], harness := (true, "571143cdc597b075a2a28b03c102e085505d4d7d9a08601a2bc59c65fcc6f1fe"), looks := false }, kinds := [], alts := [], laidByText := true, laidKinds := [.data, .pinned], laidTests := true, laidLooks := .later }
def TokensTextUptoCardSaid : Prop := Claim7.holds Tryd.pinned (.plain (OpenSpec.upto tokensTextSpec)) tokensTextUptoCard
end Rows
end Go.Proofs.YtmadddihphkmoaaDoor
