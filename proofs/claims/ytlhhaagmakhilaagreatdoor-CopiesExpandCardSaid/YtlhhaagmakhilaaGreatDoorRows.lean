/-
  NARROWER THAN 'FOR EVERY INPUT', by the rows' own cells (each row's printed sentence says how): CopiesExpand: laid · CopiesReplace: laid · CopiesNone: laid · CopiesLimits: laid · CopiesDeep: laid · CopiesUses: laid.
  DERIVED. THE GIVEN ROWS OF THIS SEAT. 6 by the template 'for every input the law returns true; each argument reads behind the call as it read before'; 0 by the template 'total and deterministic' (their statements: YtlhhaagmakhilaaGreatDoorTotals.lean).
  GIVEN WITH THE SEED: the statements are not yours to turn. If you find one false, say at which input.
  Laid BY PROGRAM, IN A SANDBOX (cutbox-rows.mjs): the forced cells as the released guide's own fill.sh prints them over the translation 75544fe050a3ac0d… (all of the seat's roots in one cut). By AI agents, Wed Nov 11 2026. No macro, syntax, notation, axiom, sorry.
-/
import Derived.Test.YtlhhaagmakhilaaGreatDoorChecked
import GoSem.PinnedTables
import GoSem.Claim
import GoSem.ClaimJoined
import GoSem.ClaimMapViews
import Derived.JoinedTies
import Derived.KernelRfl
namespace Go.Proofs.YtlhhaagmakhilaaGreatDoor
/- THE CELL 'sum', in the pinned program and in every row, IS THE sha256 OF THE DUMP (.gsa) THAT YtlhhaagmakhilaaGreatDoorProg.lean LOADS. Nothing in Lean hashes anything: it is a label: what it is worth is what the hold of that sum in a sandbox is worth. -/
noncomputable def Tryz.pinned : Pinned := { name := "ytlhhaagmakhilaagreatdoor", sum := "75544fe050a3ac0d68c41352c14e7d2ba051ddd7bb16a74cb70b4028164d4fda", checked := Tryz.checked }
namespace Rows
def none {H : Type} : Left H := { results := [], args := [] }

/- WHAT THE LISTED PACKAGE-LEVEL VARIABLES READ AS WHEN THE CALL BEGINS. Each datum BY PROGRAM (the guide's laid-datum.mjs) off the statement by which the dump's own 'gosem.cut.vars' lays the variable. In a bare row this is a premise. The card (YtlhhaagmakhilaaGreatDoorCards.lean) ties it to the program's text. -/
def laid_unicode_utf8_acceptRanges {H : Type} : DataW H := .agg [.agg [.lit (.int .u8 128), .lit (.int .u8 191)], .agg [.lit (.int .u8 160), .lit (.int .u8 191)], .agg [.lit (.int .u8 128), .lit (.int .u8 159)], .agg [.lit (.int .u8 144), .lit (.int .u8 191)], .agg [.lit (.int .u8 128), .lit (.int .u8 143)], .agg [.lit (.int .u8 0), .lit (.int .u8 0)], .agg [.lit (.int .u8 0), .lit (.int .u8 0)], .agg [.lit (.int .u8 0), .lit (.int .u8 0)], .agg [.lit (.int .u8 0), .lit (.int .u8 0)], .agg [.lit (.int .u8 0), .lit (.int .u8 0)], .agg [.lit (.int .u8 0), .lit (.int .u8 0)], .agg [.lit (.int .u8 0), .lit (.int .u8 0)], .agg [.lit (.int .u8 0), .lit (.int .u8 0)], .agg [.lit (.int .u8 0), .lit (.int .u8 0)], .agg [.lit (.int .u8 0), .lit (.int .u8 0)], .agg [.lit (.int .u8 0), .lit (.int .u8 0)]]
/-- One of Go's own tables, pinned by name: the form's constant. -/
def laid_unicode_utf8_first : DataW Unit := Go.Pinned.utf8First

/-- 'columnsevenlaw04.CopiesExpand': WHATEVER THE INPUT: true; the input reads as it did. -/
def copiesExpandSpec : ChangeSpec := { name := "copiesExpand", fn := fun _ => fun
  | [d1, d2] => { results := [.lit (.bool true)], args := [d1, d2] }
  | _ => none }
def copiesExpandRow : OpenClaim := { program := "ytlhhaagmakhilaagreatdoor", sum := "75544fe050a3ac0d68c41352c14e7d2ba051ddd7bb16a74cb70b4028164d4fda", func := "columnseven/columnsevenlaw04.CopiesExpand", spec := "copiesExpand", inPlace := ["internal/bytealg.CountString", "internal/bytealg.IndexByteString", "internal/bytealg.IndexString", "internal/abi.NoEscape", "internal/bytealg.MakeNoZero"], unfollowed := true, recurses := true, named := ["unicode/utf8.first", "unicode/utf8.acceptRanges", "internal/bytealg.MaxLen"], apart := false, laid := [("unicode/utf8.acceptRanges", laid_unicode_utf8_acceptRanges), ("unicode/utf8.first", laid_unicode_utf8_first)] }
def CopiesExpandSaid : Prop := copiesExpandRow.holds Tryz.pinned (OpenSpec.ofChange copiesExpandSpec)

/-- ITS FALSE NEIGHBOUR: 'it returns false'. Refute it at one input. -/
def copiesExpandWrong : ChangeSpec := { name := "copiesExpand", fn := fun _ => fun
  | [d1, d2] => { results := [.lit (.bool false)], args := [d1, d2] }
  | _ => none }
def CopiesExpandWrongFalsely : Prop := copiesExpandRow.holds Tryz.pinned (OpenSpec.ofChange copiesExpandWrong)

/-- 'columnsevenlaw04.CopiesReplace': WHATEVER THE INPUT: true; the input reads as it did. -/
def copiesReplaceSpec : ChangeSpec := { name := "copiesReplace", fn := fun _ => fun
  | [d1, d2] => { results := [.lit (.bool true)], args := [d1, d2] }
  | _ => none }
def copiesReplaceRow : OpenClaim := { program := "ytlhhaagmakhilaagreatdoor", sum := "75544fe050a3ac0d68c41352c14e7d2ba051ddd7bb16a74cb70b4028164d4fda", func := "columnseven/columnsevenlaw04.CopiesReplace", spec := "copiesReplace", inPlace := ["internal/bytealg.CountString", "internal/bytealg.IndexByteString", "internal/bytealg.IndexString", "internal/abi.NoEscape", "internal/bytealg.MakeNoZero"], unfollowed := true, recurses := true, named := ["unicode/utf8.first", "unicode/utf8.acceptRanges", "internal/bytealg.MaxLen"], apart := false, laid := [("unicode/utf8.acceptRanges", laid_unicode_utf8_acceptRanges), ("unicode/utf8.first", laid_unicode_utf8_first)] }
def CopiesReplaceSaid : Prop := copiesReplaceRow.holds Tryz.pinned (OpenSpec.ofChange copiesReplaceSpec)

/-- ITS FALSE NEIGHBOUR: 'it returns false'. Refute it at one input. -/
def copiesReplaceWrong : ChangeSpec := { name := "copiesReplace", fn := fun _ => fun
  | [d1, d2] => { results := [.lit (.bool false)], args := [d1, d2] }
  | _ => none }
def CopiesReplaceWrongFalsely : Prop := copiesReplaceRow.holds Tryz.pinned (OpenSpec.ofChange copiesReplaceWrong)

/-- 'columnsevenlaw04.CopiesNone': WHATEVER THE INPUT: true; the input reads as it did. -/
def copiesNoneSpec : ChangeSpec := { name := "copiesNone", fn := fun _ => fun
  | [d1, d2] => { results := [.lit (.bool true)], args := [d1, d2] }
  | _ => none }
def copiesNoneRow : OpenClaim := { program := "ytlhhaagmakhilaagreatdoor", sum := "75544fe050a3ac0d68c41352c14e7d2ba051ddd7bb16a74cb70b4028164d4fda", func := "columnseven/columnsevenlaw04.CopiesNone", spec := "copiesNone", inPlace := ["internal/bytealg.CountString", "internal/bytealg.IndexByteString", "internal/bytealg.IndexString", "internal/abi.NoEscape", "internal/bytealg.MakeNoZero"], unfollowed := true, recurses := true, named := ["unicode/utf8.first", "unicode/utf8.acceptRanges", "internal/bytealg.MaxLen"], apart := false, laid := [("unicode/utf8.acceptRanges", laid_unicode_utf8_acceptRanges), ("unicode/utf8.first", laid_unicode_utf8_first)] }
def CopiesNoneSaid : Prop := copiesNoneRow.holds Tryz.pinned (OpenSpec.ofChange copiesNoneSpec)

/-- ITS FALSE NEIGHBOUR: 'it returns false'. Refute it at one input. -/
def copiesNoneWrong : ChangeSpec := { name := "copiesNone", fn := fun _ => fun
  | [d1, d2] => { results := [.lit (.bool false)], args := [d1, d2] }
  | _ => none }
def CopiesNoneWrongFalsely : Prop := copiesNoneRow.holds Tryz.pinned (OpenSpec.ofChange copiesNoneWrong)

/-- 'columnsevenlaw04.CopiesLimits': WHATEVER THE INPUT: true; the input reads as it did. -/
def copiesLimitsSpec : ChangeSpec := { name := "copiesLimits", fn := fun _ => fun
  | [d] => { results := [.lit (.bool true)], args := [d] }
  | _ => none }
def copiesLimitsRow : OpenClaim := { program := "ytlhhaagmakhilaagreatdoor", sum := "75544fe050a3ac0d68c41352c14e7d2ba051ddd7bb16a74cb70b4028164d4fda", func := "columnseven/columnsevenlaw04.CopiesLimits", spec := "copiesLimits", inPlace := ["internal/bytealg.CountString", "internal/bytealg.IndexByteString", "internal/bytealg.IndexString", "internal/abi.NoEscape", "internal/bytealg.MakeNoZero"], unfollowed := true, recurses := true, named := ["unicode/utf8.first", "unicode/utf8.acceptRanges", "internal/bytealg.MaxLen"], apart := false, laid := [("unicode/utf8.acceptRanges", laid_unicode_utf8_acceptRanges), ("unicode/utf8.first", laid_unicode_utf8_first)] }
def CopiesLimitsSaid : Prop := copiesLimitsRow.holds Tryz.pinned (OpenSpec.ofChange copiesLimitsSpec)

/-- ITS FALSE NEIGHBOUR: 'it returns false'. Refute it at one input. -/
def copiesLimitsWrong : ChangeSpec := { name := "copiesLimits", fn := fun _ => fun
  | [d] => { results := [.lit (.bool false)], args := [d] }
  | _ => none }
def CopiesLimitsWrongFalsely : Prop := copiesLimitsRow.holds Tryz.pinned (OpenSpec.ofChange copiesLimitsWrong)

/-- 'columnsevenlaw04.CopiesDeep': WHATEVER THE INPUT: true; the input reads as it did. -/
def copiesDeepSpec : ChangeSpec := { name := "copiesDeep", fn := fun _ => fun
  | [d1, d2] => { results := [.lit (.bool true)], args := [d1, d2] }
  | _ => none }
def copiesDeepRow : OpenClaim := { program := "ytlhhaagmakhilaagreatdoor", sum := "75544fe050a3ac0d68c41352c14e7d2ba051ddd7bb16a74cb70b4028164d4fda", func := "columnseven/columnsevenlaw04.CopiesDeep", spec := "copiesDeep", inPlace := ["internal/bytealg.CountString", "internal/bytealg.IndexByteString", "internal/bytealg.IndexString", "internal/abi.NoEscape", "internal/bytealg.MakeNoZero"], unfollowed := true, recurses := true, named := ["unicode/utf8.first", "unicode/utf8.acceptRanges", "internal/bytealg.MaxLen"], apart := false, laid := [("unicode/utf8.acceptRanges", laid_unicode_utf8_acceptRanges), ("unicode/utf8.first", laid_unicode_utf8_first)] }
def CopiesDeepSaid : Prop := copiesDeepRow.holds Tryz.pinned (OpenSpec.ofChange copiesDeepSpec)

/-- ITS FALSE NEIGHBOUR: 'it returns false'. Refute it at one input. -/
def copiesDeepWrong : ChangeSpec := { name := "copiesDeep", fn := fun _ => fun
  | [d1, d2] => { results := [.lit (.bool false)], args := [d1, d2] }
  | _ => none }
def CopiesDeepWrongFalsely : Prop := copiesDeepRow.holds Tryz.pinned (OpenSpec.ofChange copiesDeepWrong)

/-- 'columnsevenlaw04.CopiesUses': WHATEVER THE INPUT: true; the input reads as it did. -/
def copiesUsesSpec : ChangeSpec := { name := "copiesUses", fn := fun _ => fun
  | [d1, d2] => { results := [.lit (.bool true)], args := [d1, d2] }
  | _ => none }
def copiesUsesRow : OpenClaim := { program := "ytlhhaagmakhilaagreatdoor", sum := "75544fe050a3ac0d68c41352c14e7d2ba051ddd7bb16a74cb70b4028164d4fda", func := "columnseven/columnsevenlaw04.CopiesUses", spec := "copiesUses", inPlace := ["internal/bytealg.CountString", "internal/bytealg.IndexByteString", "internal/bytealg.IndexString", "internal/abi.NoEscape", "internal/bytealg.MakeNoZero"], unfollowed := true, recurses := true, named := ["unicode/utf8.first", "unicode/utf8.acceptRanges", "internal/bytealg.MaxLen"], apart := false, laid := [("unicode/utf8.acceptRanges", laid_unicode_utf8_acceptRanges), ("unicode/utf8.first", laid_unicode_utf8_first)] }
def CopiesUsesSaid : Prop := copiesUsesRow.holds Tryz.pinned (OpenSpec.ofChange copiesUsesSpec)

/-- ITS FALSE NEIGHBOUR: 'it returns false'. Refute it at one input. -/
def copiesUsesWrong : ChangeSpec := { name := "copiesUses", fn := fun _ => fun
  | [d1, d2] => { results := [.lit (.bool false)], args := [d1, d2] }
  | _ => none }
def CopiesUsesWrongFalsely : Prop := copiesUsesRow.holds Tryz.pinned (OpenSpec.ofChange copiesUsesWrong)

/- THE SECOND FORM. 'bulk': how many values and letters a reading holds, each counted each time it is reached (what is shared counts as often as it is met; a slice's spare places count too). A statement '..UptoSaid' is the law's where the arguments, and the package variables that the reading takes, are together of bulk at most 1048576: NARROWER than '..Said'. Prove '..Said' where nothing that the law and all that it calls make is longer than what came in: it says more and counts as full. Else prove '..UptoSaid'. A law counts once. -/
mutual
def uptoBulk {H : Type} : DataW H → Nat
  | .lit (.string bytes) => bytes.length + 1
  | .lit _ => 1
  | .nil => 1
  | .ptr d => uptoBulk d + 1
  | .slice elems spare => uptoBulkAll elems + uptoBulkAll spare + 1
  | .agg parts => uptoBulkAll parts + 1
  | .iface _ d => uptoBulk d + 1
  | .map entries => uptoBulkEntries entries + 1
  | .held _ => 1
def uptoBulkAll {H : Type} : List (DataW H) → Nat
  | [] => 0
  | d :: r => uptoBulk d + uptoBulkAll r
def uptoBulkEntries {H : Type} : List (Lit × DataW H) → Nat
  | [] => 0
  | x :: r => uptoBulkEntry x + uptoBulkEntries r
def uptoBulkEntry {H : Type} : Lit × DataW H → Nat
  | (.string bytes, d) => bytes.length + uptoBulk d + 1
  | (_, d) => uptoBulk d + 1
 end
def uptoSmall : (H : Type) → List (DataW H) → Bool := fun _ ds => decide (uptoBulkAll ds ≤ 1048576)
def OpenSpec.upto (s : _root_.Go.ChangeSpec) : _root_.Go.OpenSpec := { _root_.Go.OpenSpec.ofChange s with cond := some uptoSmall }

/-- 'columnsevenlaw04.CopiesExpand', WHERE WHAT IT READS IS OF BULK AT MOST 1048576: true; the input reads as it did. -/
def copiesExpandUptoRow : OpenClaim := { program := "ytlhhaagmakhilaagreatdoor", sum := "75544fe050a3ac0d68c41352c14e7d2ba051ddd7bb16a74cb70b4028164d4fda", func := "columnseven/columnsevenlaw04.CopiesExpand", spec := "copiesExpand", inPlace := ["internal/bytealg.CountString", "internal/bytealg.IndexByteString", "internal/bytealg.IndexString", "internal/abi.NoEscape", "internal/bytealg.MakeNoZero"], unfollowed := true, recurses := true, named := ["unicode/utf8.first", "unicode/utf8.acceptRanges", "internal/bytealg.MaxLen"], apart := false, laid := [("unicode/utf8.acceptRanges", laid_unicode_utf8_acceptRanges), ("unicode/utf8.first", laid_unicode_utf8_first)], narrowed := true }
def CopiesExpandUptoSaid : Prop := copiesExpandUptoRow.holds Tryz.pinned (OpenSpec.upto copiesExpandSpec)

/-- 'columnsevenlaw04.CopiesReplace', WHERE WHAT IT READS IS OF BULK AT MOST 1048576: true; the input reads as it did. -/
def copiesReplaceUptoRow : OpenClaim := { program := "ytlhhaagmakhilaagreatdoor", sum := "75544fe050a3ac0d68c41352c14e7d2ba051ddd7bb16a74cb70b4028164d4fda", func := "columnseven/columnsevenlaw04.CopiesReplace", spec := "copiesReplace", inPlace := ["internal/bytealg.CountString", "internal/bytealg.IndexByteString", "internal/bytealg.IndexString", "internal/abi.NoEscape", "internal/bytealg.MakeNoZero"], unfollowed := true, recurses := true, named := ["unicode/utf8.first", "unicode/utf8.acceptRanges", "internal/bytealg.MaxLen"], apart := false, laid := [("unicode/utf8.acceptRanges", laid_unicode_utf8_acceptRanges), ("unicode/utf8.first", laid_unicode_utf8_first)], narrowed := true }
def CopiesReplaceUptoSaid : Prop := copiesReplaceUptoRow.holds Tryz.pinned (OpenSpec.upto copiesReplaceSpec)

/-- 'columnsevenlaw04.CopiesNone', WHERE WHAT IT READS IS OF BULK AT MOST 1048576: true; the input reads as it did. -/
def copiesNoneUptoRow : OpenClaim := { program := "ytlhhaagmakhilaagreatdoor", sum := "75544fe050a3ac0d68c41352c14e7d2ba051ddd7bb16a74cb70b4028164d4fda", func := "columnseven/columnsevenlaw04.CopiesNone", spec := "copiesNone", inPlace := ["internal/bytealg.CountString", "internal/bytealg.IndexByteString", "internal/bytealg.IndexString", "internal/abi.NoEscape", "internal/bytealg.MakeNoZero"], unfollowed := true, recurses := true, named := ["unicode/utf8.first", "unicode/utf8.acceptRanges", "internal/bytealg.MaxLen"], apart := false, laid := [("unicode/utf8.acceptRanges", laid_unicode_utf8_acceptRanges), ("unicode/utf8.first", laid_unicode_utf8_first)], narrowed := true }
def CopiesNoneUptoSaid : Prop := copiesNoneUptoRow.holds Tryz.pinned (OpenSpec.upto copiesNoneSpec)

/-- 'columnsevenlaw04.CopiesLimits', WHERE WHAT IT READS IS OF BULK AT MOST 1048576: true; the input reads as it did. -/
def copiesLimitsUptoRow : OpenClaim := { program := "ytlhhaagmakhilaagreatdoor", sum := "75544fe050a3ac0d68c41352c14e7d2ba051ddd7bb16a74cb70b4028164d4fda", func := "columnseven/columnsevenlaw04.CopiesLimits", spec := "copiesLimits", inPlace := ["internal/bytealg.CountString", "internal/bytealg.IndexByteString", "internal/bytealg.IndexString", "internal/abi.NoEscape", "internal/bytealg.MakeNoZero"], unfollowed := true, recurses := true, named := ["unicode/utf8.first", "unicode/utf8.acceptRanges", "internal/bytealg.MaxLen"], apart := false, laid := [("unicode/utf8.acceptRanges", laid_unicode_utf8_acceptRanges), ("unicode/utf8.first", laid_unicode_utf8_first)], narrowed := true }
def CopiesLimitsUptoSaid : Prop := copiesLimitsUptoRow.holds Tryz.pinned (OpenSpec.upto copiesLimitsSpec)

/-- 'columnsevenlaw04.CopiesDeep', WHERE WHAT IT READS IS OF BULK AT MOST 1048576: true; the input reads as it did. -/
def copiesDeepUptoRow : OpenClaim := { program := "ytlhhaagmakhilaagreatdoor", sum := "75544fe050a3ac0d68c41352c14e7d2ba051ddd7bb16a74cb70b4028164d4fda", func := "columnseven/columnsevenlaw04.CopiesDeep", spec := "copiesDeep", inPlace := ["internal/bytealg.CountString", "internal/bytealg.IndexByteString", "internal/bytealg.IndexString", "internal/abi.NoEscape", "internal/bytealg.MakeNoZero"], unfollowed := true, recurses := true, named := ["unicode/utf8.first", "unicode/utf8.acceptRanges", "internal/bytealg.MaxLen"], apart := false, laid := [("unicode/utf8.acceptRanges", laid_unicode_utf8_acceptRanges), ("unicode/utf8.first", laid_unicode_utf8_first)], narrowed := true }
def CopiesDeepUptoSaid : Prop := copiesDeepUptoRow.holds Tryz.pinned (OpenSpec.upto copiesDeepSpec)

/-- 'columnsevenlaw04.CopiesUses', WHERE WHAT IT READS IS OF BULK AT MOST 1048576: true; the input reads as it did. -/
def copiesUsesUptoRow : OpenClaim := { program := "ytlhhaagmakhilaagreatdoor", sum := "75544fe050a3ac0d68c41352c14e7d2ba051ddd7bb16a74cb70b4028164d4fda", func := "columnseven/columnsevenlaw04.CopiesUses", spec := "copiesUses", inPlace := ["internal/bytealg.CountString", "internal/bytealg.IndexByteString", "internal/bytealg.IndexString", "internal/abi.NoEscape", "internal/bytealg.MakeNoZero"], unfollowed := true, recurses := true, named := ["unicode/utf8.first", "unicode/utf8.acceptRanges", "internal/bytealg.MaxLen"], apart := false, laid := [("unicode/utf8.acceptRanges", laid_unicode_utf8_acceptRanges), ("unicode/utf8.first", laid_unicode_utf8_first)], narrowed := true }
def CopiesUsesUptoSaid : Prop := copiesUsesUptoRow.holds Tryz.pinned (OpenSpec.upto copiesUsesSpec)

end Rows
end Go.Proofs.YtlhhaagmakhilaaGreatDoor
