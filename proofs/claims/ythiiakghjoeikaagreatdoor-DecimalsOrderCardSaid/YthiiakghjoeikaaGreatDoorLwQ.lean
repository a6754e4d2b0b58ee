/-
  The arguments of the statements, opened: booleans, texts, integers; the errors of the library that a row lists.
  Conditions: none.
-/
import Derived.Test.YthiiakghjoeikaaGreatDoorLwP
import Derived.Test.YthiiakghjoeikaaGreatDoorDcL
import Derived.Stop.LaidErr
import Derived.FnData
set_option linter.unusedSimpArgs false
set_option linter.unnecessarySimpa false
namespace Go.Proofs.YthiiakghjoeikaaGreatDoor
open Go.AM
open Go.ChangeShapes Go.WideShapes Go.ChangeAt Go.RowKit
set_option linter.unusedVariables false
set_option maxRecDepth 100000

section
variable {H : Type} {enc : TypeId × Value → H} {W : World} {base : Nat} {v : Value} {x : DataW H × List MemPlace}
theorem arg_bool {t : TypeId} (ht : Tryz.prog.underlying t = some .bool) (hv : Value.okWide Tryz.prog W .any base t v) : ∃ b : Bool, VR (fun _ => none) (.bool b) v := by
  obtain ⟨b, rfl⟩ := okWide_bool ht hv
  exact ⟨b, by simp only [VR]⟩
theorem arg_str {t : TypeId} (ht : Tryz.prog.underlying t = some .string) (h : ∃ fuel, DataW.trod enc Tryz.prog W 0 (fun _ => true) true fuel t v.cells.toList = some x) (hv : Value.okWide Tryz.prog W .any base t v) :
    ∃ s : List UInt8, VR (fun _ => none) (.str s) v ∧ s.length ≤ 9223372036854775807 := by
  obtain ⟨fuel, hf⟩ := h
  obtain ⟨s, rfl⟩ := okWide_string ht hv
  obtain ⟨s', h, hx, hs⟩ := DataW.trod_string ht hf
  simp [Value.cells] at h
  subst h
  exact ⟨s.data.toList, VR_strArg _ s, str_le hs⟩
theorem arg_i64 {t : TypeId} (ht : Tryz.prog.underlying t = some (.int .i64)) (h : ∃ fuel, DataW.trod enc Tryz.prog W 0 (fun _ => true) true fuel t v.cells.toList = some x) (hv : Value.okWide Tryz.prog W .any base t v) :
    ∃ n : Int, VR (fun _ => none) (.int .i64 n) v ∧ -9223372036854775808 ≤ n ∧ n ≤ 9223372036854775807 := by
  obtain ⟨fuel, hf⟩ := h
  obtain ⟨n, hcs, _, hw⟩ := DataW.trod_int ht hf
  obtain ⟨m, rfl⟩ := okWide_int ht hv
  simp [Value.cells] at hcs
  subst hcs
  exact ⟨m, by simp only [VR], wf_i64 hw⟩
theorem wf_i16 {n : Int} (h : (Lit.int .i16 n).wf = true) : -32768 ≤ n ∧ n ≤ 32767 := by
  have e1 : IntKind.i16.min = -32768 := by decide
  have e2 : IntKind.i16.max = 32767 := by decide
  simpa [Lit.wf, e1, e2] using h
theorem arg_i16 {t : TypeId} (ht : Tryz.prog.underlying t = some (.int .i16)) (h : ∃ fuel, DataW.trod enc Tryz.prog W 0 (fun _ => true) true fuel t v.cells.toList = some x) (hv : Value.okWide Tryz.prog W .any base t v) :
    ∃ n : Int, VR (fun _ => none) (.int .i16 n) v ∧ -32768 ≤ n ∧ n ≤ 32767 := by
  obtain ⟨fuel, hf⟩ := h
  obtain ⟨n, hcs, _, hw⟩ := DataW.trod_int ht hf
  obtain ⟨m, rfl⟩ := okWide_int ht hv
  simp [Value.cells] at hcs
  subst hcs
  exact ⟨m, by simp only [VR], wf_i16 hw⟩
end
theorem star_err : "*" ++ "errors.errorString" = "*errors.errorString" := by decide
theorem row_err (u : TypeId) (h : Tryz.prog.typeName? 3 u = some "*errors.errorString") : u = 155 :=
  typeName_ptr_named (nm := "errors.errorString") (by rw [star_err]; kernel_rfl) (by kernel_rfl) (by decide) u (by rw [star_err]; exact h)
/-- The listed error. -/
theorem errs_of {W : World} {rest : List (String × DataW Unit)} (h : laidMet Tryz.prog (("strconv.ErrRange", Rows.laid_strconv_ErrRange) :: rest) W) : Errs W := by
  obtain ⟨a, s, hv, _⟩ := laid_sentinel (g := 3) (tp := 155) h (by kernel_rfl) (by kernel_rfl) Tryz.underlying82 row_err Tryz.underlying155 Tryz.underlying157 (by kernel_rfl) (by kernel_rfl) Tryz.underlying9 (by kernel_rfl) (by kernel_rfl)
  exact ⟨_, by rw [World.var?_cell (g := 3) (by kernel_rfl) hv 0]; rfl, .inr ⟨_, _, rfl⟩⟩
end Go.Proofs.YthiiakghjoeikaaGreatDoor
