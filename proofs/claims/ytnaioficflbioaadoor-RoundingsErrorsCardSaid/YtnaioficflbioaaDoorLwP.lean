/-
  The arguments of the statements, opened: decimals, pairs of integers.
  Conditions: none.
-/
import Derived.Test.YtnaioficflbioaaDoorLwO
set_option linter.unnecessarySimpa false
set_option linter.unusedSimpArgs false
namespace Go.Proofs.YtnaioficflbioaaDoor
open Go.AM
open Go.Dec
open Go.ChangeShapes Go.WideShapes Go.ChangeAt Go.RowKit
set_option linter.unusedVariables false
set_option maxRecDepth 100000

section
variable {H : Type} {enc : TypeId × Value → H} {W : World} {base : Nat} {v : Value} {x : DataW H × List MemPlace}

theorem arg_D (h : ∃ fuel, DataW.trod enc Tryd.prog W 0 (fun _ => true) true fuel 28 v.cells.toList = some x) (hv : Value.okWide Tryd.prog W .any base 28 v) :
    ∃ d : D, VR (fun _ => none) (decA d) v ∧ d.dig.length ≤ 9223372036854775807 := by
  obtain ⟨cs, rfl, hsz⟩ := okWide_struct Tryd.underlying28 hv
  obtain ⟨fuel, hf⟩ := h
  obtain ⟨y0, y1, y2, n, _, hl, h0, h1, h2⟩ := Go.Deep.trod_struct3 Tryd.underlying28 hf
  rw [show Tryd.prog.cellsOf 28 = 3 by kernel_rfl] at hsz hl
  obtain ⟨l⟩ := cs
  match l, hsz with
  | [c0, c1, c2], _ =>
    simp only [show Tryd.prog.cellsOf 4 = 1 by kernel_rfl, show Tryd.prog.cellsOf 9 = 1 by kernel_rfl, show Tryd.prog.cellsOf 3 = 1 by kernel_rfl, Value.cells, List.drop_zero, List.drop_succ_cons, List.take_succ_cons, List.take_zero] at h0 h1 h2
    obtain ⟨b, e0, _⟩ := DataW.trod_bool Tryd.underlying4 h0
    obtain ⟨s, e1, _, hs⟩ := DataW.trod_string Tryd.underlying9 h1
    obtain ⟨m, e2, _, _⟩ := DataW.trod_int Tryd.underlying3 h2
    simp only [List.cons.injEq, and_true] at e0 e1 e2
    subst e0 e1 e2
    refine ⟨⟨b, s.data.toList, m⟩, ?_, str_le hs⟩
    unfold decA
    simp only [VR]
    refine ⟨_, rfl, ?_⟩
    simp only [VRs]
    exact ⟨_, _, rfl, by simp only [VR], _, _, rfl, VR_strArg _ s, _, _, rfl, by simp only [VR], rfl⟩

theorem arg_z2 (h : ∃ fuel, DataW.trod enc Tryd.prog W 0 (fun _ => true) true fuel 49 v.cells.toList = some x) (hv : Value.okWide Tryd.prog W .any base 49 v) :
    ∃ a b : Int, VR (fun _ => none) (.agg [.int .i64 a, .int .i64 b]) v ∧ (-9223372036854775808 ≤ a ∧ a ≤ 9223372036854775807) ∧ -9223372036854775808 ≤ b ∧ b ≤ 9223372036854775807 := by
  have hw : ∃ cs : Array Value, v = .agg cs := by
    simp only [Value.okWide, Tryd.underlying49] at hv
    obtain ⟨cs, h1, _⟩ := hv
    exact ⟨cs, h1⟩
  obtain ⟨cs, rfl⟩ := hw
  obtain ⟨fuel, hf⟩ := h
  obtain ⟨xs, m, _, _, hl, hn, hc⟩ := DataW.trod_array Tryd.underlying49 hf
  have c3 : Tryd.prog.cellsOf 3 = 1 := by kernel_rfl
  rw [show Tryd.prog.cellsOf 49 = 2 by kernel_rfl] at hl
  have h0 := hc 0 (by omega)
  have h1 := hc 1 (by omega)
  obtain ⟨l⟩ := cs
  match l, hl with
  | [c0, c1], _ =>
    match xs, hn with
    | [y0, y1], _ =>
      simp only [c3, Value.cells, Nat.zero_mul, Nat.one_mul, List.drop_zero, List.drop_succ_cons, List.take_succ_cons, List.take_zero, List.getElem?_cons_zero, List.getElem?_cons_succ] at h0 h1
      obtain ⟨a, e0, _, w0⟩ := DataW.trod_int Tryd.underlying3 h0
      obtain ⟨b, e1, _, w1⟩ := DataW.trod_int Tryd.underlying3 h1
      simp only [List.cons.injEq, and_true] at e0 e1
      subst e0 e1
      refine ⟨a, b, ?_, wf_i64 w0, wf_i64 w1⟩
      simp only [VR]
      refine ⟨_, rfl, ?_⟩
      simp only [VRs]
      exact ⟨_, _, rfl, by simp only [VR], _, _, rfl, by simp only [VR], rfl⟩
end
end Go.Proofs.YtnaioficflbioaaDoor
