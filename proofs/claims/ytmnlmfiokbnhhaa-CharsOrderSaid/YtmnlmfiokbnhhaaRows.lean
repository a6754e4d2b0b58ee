/-
  No cell of these rows narrows 'for every input' (looked for: loops, veiled, ifaces, maps, wideKeys, modest, calm, conditions, laid).
  DERIVED. THE GIVEN ROWS OF THIS SEAT. 6 by the template 'for every input the law returns true; each argument reads behind the call as it read before'; 0 by the template 'total and deterministic' (their statements: YtmnlmfiokbnhhaaTotals.lean).
  GIVEN WITH THE SEED: the statements are not yours to turn. If you find one false, say at which input.
  Laid BY PROGRAM, IN A SANDBOX (cutbox-rows.mjs): the forced cells as the released guide's own fill.sh prints them over the translation 056220f009a2e5ae… (all of the seat's roots in one cut). By AI agents, Wed Nov 11 2026. No macro, syntax, notation, axiom, sorry.
-/
import Derived.Test.YtmnlmfiokbnhhaaChecked
import GoSem.Claim
import GoSem.ClaimJoined
import GoSem.ClaimMapViews
import Derived.JoinedTies
import Derived.KernelRfl
namespace Go.Proofs.Ytmnlmfiokbnhhaa
/- THE CELL 'sum', in the pinned program and in every row, IS THE sha256 OF THE DUMP (.gsa) THAT YtmnlmfiokbnhhaaProg.lean LOADS. Nothing in Lean hashes anything: it is a label: what it is worth is what the hold of that sum in a sandbox is worth. -/
noncomputable def Try.pinned : Pinned := { name := "ytmnlmfiokbnhhaa", sum := "056220f009a2e5ae3385a67d52f19dfb7a67b0c914f624b7c7db5ac51ee44d87", checked := Try.checked }
namespace Rows
def none {H : Type} : Left H := { results := [], args := [] }

/-- 'columnsevenlaw01.CharsFold': WHATEVER THE INPUT: true; the input reads as it did. -/
def charsFoldSpec : ChangeSpec := { name := "charsFold", fn := fun _ => fun
  | [d] => { results := [.lit (.bool true)], args := [d] }
  | _ => none }
def charsFoldRow : OpenClaim := { program := "ytmnlmfiokbnhhaa", sum := "056220f009a2e5ae3385a67d52f19dfb7a67b0c914f624b7c7db5ac51ee44d87", func := "columnseven/columnsevenlaw01.CharsFold", spec := "charsFold", inPlace := ["internal/abi.NoEscape", "internal/bytealg.MakeNoZero"], unfollowed := true, recurses := true, apart := false }
def CharsFoldSaid : Prop := charsFoldRow.holds Try.pinned (OpenSpec.ofChange charsFoldSpec)

/-- ITS FALSE NEIGHBOUR: 'it returns false'. Refute it at one input. -/
def charsFoldWrong : ChangeSpec := { name := "charsFold", fn := fun _ => fun
  | [d] => { results := [.lit (.bool false)], args := [d] }
  | _ => none }
def CharsFoldWrongFalsely : Prop := charsFoldRow.holds Try.pinned (OpenSpec.ofChange charsFoldWrong)

/-- 'columnsevenlaw01.CharsOrder': WHATEVER THE INPUT: true; the input reads as it did. -/
def charsOrderSpec : ChangeSpec := { name := "charsOrder", fn := fun _ => fun
  | [d1, d2, d3] => { results := [.lit (.bool true)], args := [d1, d2, d3] }
  | _ => none }
def charsOrderRow : OpenClaim := { program := "ytmnlmfiokbnhhaa", sum := "056220f009a2e5ae3385a67d52f19dfb7a67b0c914f624b7c7db5ac51ee44d87", func := "columnseven/columnsevenlaw01.CharsOrder", spec := "charsOrder", inPlace := ["internal/abi.NoEscape", "internal/bytealg.MakeNoZero"], unfollowed := true, recurses := true, apart := false }
def CharsOrderSaid : Prop := charsOrderRow.holds Try.pinned (OpenSpec.ofChange charsOrderSpec)

/-- ITS FALSE NEIGHBOUR: 'it returns false'. Refute it at one input. -/
def charsOrderWrong : ChangeSpec := { name := "charsOrder", fn := fun _ => fun
  | [d1, d2, d3] => { results := [.lit (.bool false)], args := [d1, d2, d3] }
  | _ => none }
def CharsOrderWrongFalsely : Prop := charsOrderRow.holds Try.pinned (OpenSpec.ofChange charsOrderWrong)

/-- 'columnsevenlaw01.CharsFill': WHATEVER THE INPUT: true; the input reads as it did. -/
def charsFillSpec : ChangeSpec := { name := "charsFill", fn := fun _ => fun
  | [d1, d2] => { results := [.lit (.bool true)], args := [d1, d2] }
  | _ => none }
def charsFillRow : OpenClaim := { program := "ytmnlmfiokbnhhaa", sum := "056220f009a2e5ae3385a67d52f19dfb7a67b0c914f624b7c7db5ac51ee44d87", func := "columnseven/columnsevenlaw01.CharsFill", spec := "charsFill", inPlace := ["internal/abi.NoEscape", "internal/bytealg.MakeNoZero"], unfollowed := true, recurses := true, apart := false }
def CharsFillSaid : Prop := charsFillRow.holds Try.pinned (OpenSpec.ofChange charsFillSpec)

/-- ITS FALSE NEIGHBOUR: 'it returns false'. Refute it at one input. -/
def charsFillWrong : ChangeSpec := { name := "charsFill", fn := fun _ => fun
  | [d1, d2] => { results := [.lit (.bool false)], args := [d1, d2] }
  | _ => none }
def CharsFillWrongFalsely : Prop := charsFillRow.holds Try.pinned (OpenSpec.ofChange charsFillWrong)

/-- 'columnsevenlaw01.CharsFit': WHATEVER THE INPUT: true; the input reads as it did. -/
def charsFitSpec : ChangeSpec := { name := "charsFit", fn := fun _ => fun
  | [d1, d2, d3] => { results := [.lit (.bool true)], args := [d1, d2, d3] }
  | _ => none }
def charsFitRow : OpenClaim := { program := "ytmnlmfiokbnhhaa", sum := "056220f009a2e5ae3385a67d52f19dfb7a67b0c914f624b7c7db5ac51ee44d87", func := "columnseven/columnsevenlaw01.CharsFit", spec := "charsFit", inPlace := ["internal/abi.NoEscape", "internal/bytealg.MakeNoZero"], unfollowed := true, recurses := true, apart := false }
def CharsFitSaid : Prop := charsFitRow.holds Try.pinned (OpenSpec.ofChange charsFitSpec)

/-- ITS FALSE NEIGHBOUR: 'it returns false'. Refute it at one input. -/
def charsFitWrong : ChangeSpec := { name := "charsFit", fn := fun _ => fun
  | [d1, d2, d3] => { results := [.lit (.bool false)], args := [d1, d2, d3] }
  | _ => none }
def CharsFitWrongFalsely : Prop := charsFitRow.holds Try.pinned (OpenSpec.ofChange charsFitWrong)

/-- 'columnsevenlaw01.CharsTrim': WHATEVER THE INPUT: true; the input reads as it did. -/
def charsTrimSpec : ChangeSpec := { name := "charsTrim", fn := fun _ => fun
  | [d] => { results := [.lit (.bool true)], args := [d] }
  | _ => none }
def charsTrimRow : OpenClaim := { program := "ytmnlmfiokbnhhaa", sum := "056220f009a2e5ae3385a67d52f19dfb7a67b0c914f624b7c7db5ac51ee44d87", func := "columnseven/columnsevenlaw01.CharsTrim", spec := "charsTrim", inPlace := ["internal/abi.NoEscape", "internal/bytealg.MakeNoZero"], unfollowed := true, recurses := true, apart := false }
def CharsTrimSaid : Prop := charsTrimRow.holds Try.pinned (OpenSpec.ofChange charsTrimSpec)

/-- ITS FALSE NEIGHBOUR: 'it returns false'. Refute it at one input. -/
def charsTrimWrong : ChangeSpec := { name := "charsTrim", fn := fun _ => fun
  | [d] => { results := [.lit (.bool false)], args := [d] }
  | _ => none }
def CharsTrimWrongFalsely : Prop := charsTrimRow.holds Try.pinned (OpenSpec.ofChange charsTrimWrong)

/-- 'columnsevenlaw01.CharsNames': WHATEVER THE INPUT: true; the input reads as it did. -/
def charsNamesSpec : ChangeSpec := { name := "charsNames", fn := fun _ => fun
  | [d] => { results := [.lit (.bool true)], args := [d] }
  | _ => none }
def charsNamesRow : OpenClaim := { program := "ytmnlmfiokbnhhaa", sum := "056220f009a2e5ae3385a67d52f19dfb7a67b0c914f624b7c7db5ac51ee44d87", func := "columnseven/columnsevenlaw01.CharsNames", spec := "charsNames", inPlace := ["internal/abi.NoEscape", "internal/bytealg.MakeNoZero"], unfollowed := true, recurses := true, apart := false }
def CharsNamesSaid : Prop := charsNamesRow.holds Try.pinned (OpenSpec.ofChange charsNamesSpec)

/-- ITS FALSE NEIGHBOUR: 'it returns false'. Refute it at one input. -/
def charsNamesWrong : ChangeSpec := { name := "charsNames", fn := fun _ => fun
  | [d] => { results := [.lit (.bool false)], args := [d] }
  | _ => none }
def CharsNamesWrongFalsely : Prop := charsNamesRow.holds Try.pinned (OpenSpec.ofChange charsNamesWrong)

/- THE SECOND FORM. 'bulk': how many values and letters a reading holds, each counted each time it is reached (what is shared counts as often as it is met; a slice's spare places count too). A statement '..UptoSaid' is the law's where the arguments, and the package variables that the reading takes, are together of bulk at most 1048576: NARROWER than '..Said'. Prove '..Said' where nothing that the law and all that it calls make is longer than what came in: it says more and counts as full. Else prove '..UptoSaid'. A law counts once. -/
mutual
def uptoBulk {H : Type} : DataW H → Nat
  | .lit (.string bytes) => bytes.length + 1
  | .lit _ => 1
  | .nil => 1
  | .ptr d => uptoBulk d + 1
  | .slice elems spare => uptoBulkAll elems + uptoBulkAll spare + 1
  | .agg parts => uptoBulkAll parts + 1
  | .iface _ d => uptoBulk d + 1
  | .map entries => uptoBulkEntries entries + 1
  | .held _ => 1
def uptoBulkAll {H : Type} : List (DataW H) → Nat
  | [] => 0
  | d :: r => uptoBulk d + uptoBulkAll r
def uptoBulkEntries {H : Type} : List (Lit × DataW H) → Nat
  | [] => 0
  | x :: r => uptoBulkEntry x + uptoBulkEntries r
def uptoBulkEntry {H : Type} : Lit × DataW H → Nat
  | (.string bytes, d) => bytes.length + uptoBulk d + 1
  | (_, d) => uptoBulk d + 1
 end
def uptoSmall : (H : Type) → List (DataW H) → Bool := fun _ ds => decide (uptoBulkAll ds ≤ 1048576)
def OpenSpec.upto (s : _root_.Go.ChangeSpec) : _root_.Go.OpenSpec := { _root_.Go.OpenSpec.ofChange s with cond := some uptoSmall }

/-- 'columnsevenlaw01.CharsFold', WHERE WHAT IT READS IS OF BULK AT MOST 1048576: true; the input reads as it did. -/
def charsFoldUptoRow : OpenClaim := { program := "ytmnlmfiokbnhhaa", sum := "056220f009a2e5ae3385a67d52f19dfb7a67b0c914f624b7c7db5ac51ee44d87", func := "columnseven/columnsevenlaw01.CharsFold", spec := "charsFold", inPlace := ["internal/abi.NoEscape", "internal/bytealg.MakeNoZero"], unfollowed := true, recurses := true, apart := false, narrowed := true }
def CharsFoldUptoSaid : Prop := charsFoldUptoRow.holds Try.pinned (OpenSpec.upto charsFoldSpec)

/-- 'columnsevenlaw01.CharsOrder', WHERE WHAT IT READS IS OF BULK AT MOST 1048576: true; the input reads as it did. -/
def charsOrderUptoRow : OpenClaim := { program := "ytmnlmfiokbnhhaa", sum := "056220f009a2e5ae3385a67d52f19dfb7a67b0c914f624b7c7db5ac51ee44d87", func := "columnseven/columnsevenlaw01.CharsOrder", spec := "charsOrder", inPlace := ["internal/abi.NoEscape", "internal/bytealg.MakeNoZero"], unfollowed := true, recurses := true, apart := false, narrowed := true }
def CharsOrderUptoSaid : Prop := charsOrderUptoRow.holds Try.pinned (OpenSpec.upto charsOrderSpec)

/-- 'columnsevenlaw01.CharsFill', WHERE WHAT IT READS IS OF BULK AT MOST 1048576: true; the input reads as it did. -/
def charsFillUptoRow : OpenClaim := { program := "ytmnlmfiokbnhhaa", sum := "056220f009a2e5ae3385a67d52f19dfb7a67b0c914f624b7c7db5ac51ee44d87", func := "columnseven/columnsevenlaw01.CharsFill", spec := "charsFill", inPlace := ["internal/abi.NoEscape", "internal/bytealg.MakeNoZero"], unfollowed := true, recurses := true, apart := false, narrowed := true }
def CharsFillUptoSaid : Prop := charsFillUptoRow.holds Try.pinned (OpenSpec.upto charsFillSpec)

/-- 'columnsevenlaw01.CharsFit', WHERE WHAT IT READS IS OF BULK AT MOST 1048576: true; the input reads as it did. -/
def charsFitUptoRow : OpenClaim := { program := "ytmnlmfiokbnhhaa", sum := "056220f009a2e5ae3385a67d52f19dfb7a67b0c914f624b7c7db5ac51ee44d87", func := "columnseven/columnsevenlaw01.CharsFit", spec := "charsFit", inPlace := ["internal/abi.NoEscape", "internal/bytealg.MakeNoZero"], unfollowed := true, recurses := true, apart := false, narrowed := true }
def CharsFitUptoSaid : Prop := charsFitUptoRow.holds Try.pinned (OpenSpec.upto charsFitSpec)

/-- 'columnsevenlaw01.CharsTrim', WHERE WHAT IT READS IS OF BULK AT MOST 1048576: true; the input reads as it did. -/
def charsTrimUptoRow : OpenClaim := { program := "ytmnlmfiokbnhhaa", sum := "056220f009a2e5ae3385a67d52f19dfb7a67b0c914f624b7c7db5ac51ee44d87", func := "columnseven/columnsevenlaw01.CharsTrim", spec := "charsTrim", inPlace := ["internal/abi.NoEscape", "internal/bytealg.MakeNoZero"], unfollowed := true, recurses := true, apart := false, narrowed := true }
def CharsTrimUptoSaid : Prop := charsTrimUptoRow.holds Try.pinned (OpenSpec.upto charsTrimSpec)

/-- 'columnsevenlaw01.CharsNames', WHERE WHAT IT READS IS OF BULK AT MOST 1048576: true; the input reads as it did. -/
def charsNamesUptoRow : OpenClaim := { program := "ytmnlmfiokbnhhaa", sum := "056220f009a2e5ae3385a67d52f19dfb7a67b0c914f624b7c7db5ac51ee44d87", func := "columnseven/columnsevenlaw01.CharsNames", spec := "charsNames", inPlace := ["internal/abi.NoEscape", "internal/bytealg.MakeNoZero"], unfollowed := true, recurses := true, apart := false, narrowed := true }
def CharsNamesUptoSaid : Prop := charsNamesUptoRow.holds Try.pinned (OpenSpec.upto charsNamesSpec)

end Rows
end Go.Proofs.Ytmnlmfiokbnhhaa
