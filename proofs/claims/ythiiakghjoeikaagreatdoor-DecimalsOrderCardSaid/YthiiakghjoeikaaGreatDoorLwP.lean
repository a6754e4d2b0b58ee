/-
  The arguments of the statements, opened: decimals, pairs of integers.
  Conditions: none.
-/
import Derived.Test.YthiiakghjoeikaaGreatDoorLwO
set_option linter.unusedSimpArgs false
set_option linter.unnecessarySimpa false
namespace Go.Proofs.YthiiakghjoeikaaGreatDoor
open Go.AM
open Go.Dec
open Go.ChangeShapes Go.WideShapes Go.ChangeAt Go.RowKit
set_option linter.unusedVariables false
set_option maxRecDepth 100000

section
variable {H : Type} {enc : TypeId × Value → H} {W : World} {base : Nat} {v : Value} {x : DataW H × List MemPlace}

theorem arg_D (h : ∃ fuel, DataW.trod enc Tryz.prog W 0 (fun _ => true) true fuel 27 v.cells.toList = some x) (hv : Value.okWide Tryz.prog W .any base 27 v) :
    ∃ d : D, VR (fun _ => none) (decA d) v ∧ d.dig.length ≤ 9223372036854775807 := by
  obtain ⟨cs, rfl, hsz⟩ := okWide_struct Tryz.underlying27 hv
  obtain ⟨fuel, hf⟩ := h
  obtain ⟨y0, y1, y2, n, _, hl, h0, h1, h2⟩ := Go.Deep.trod_struct3 Tryz.underlying27 hf
  rw [show Tryz.prog.cellsOf 27 = 3 by kernel_rfl] at hsz hl
  obtain ⟨l⟩ := cs
  match l, hsz with
  | [c0, c1, c2], _ =>
    simp only [show Tryz.prog.cellsOf 4 = 1 by kernel_rfl, show Tryz.prog.cellsOf 9 = 1 by kernel_rfl, show Tryz.prog.cellsOf 3 = 1 by kernel_rfl, Value.cells, List.drop_zero, List.drop_succ_cons, List.take_succ_cons, List.take_zero] at h0 h1 h2
    obtain ⟨b, e0, _⟩ := DataW.trod_bool Tryz.underlying4 h0
    obtain ⟨s, e1, _, hs⟩ := DataW.trod_string Tryz.underlying9 h1
    obtain ⟨m, e2, _, _⟩ := DataW.trod_int Tryz.underlying3 h2
    simp only [List.cons.injEq, and_true] at e0 e1 e2
    subst e0 e1 e2
    refine ⟨⟨b, s.data.toList, m⟩, ?_, str_le hs⟩
    unfold decA
    simp only [VR]
    refine ⟨_, rfl, ?_⟩
    simp only [VRs]
    exact ⟨_, _, rfl, by simp only [VR], _, _, rfl, VR_strArg _ s, _, _, rfl, by simp only [VR], rfl⟩

end
end Go.Proofs.YthiiakghjoeikaaGreatDoor
