/-
  An assertion layer over the model's wp, part O: what comes into a law, as symbolic values.
  Conditions: none. Nothing here is about a particular program.
-/
import Derived.Test.YthiiakghjoeikaaGreatDoorAmN
import Derived.ProofKit
import Derived.OpenShut
import Derived.ShutString
import Derived.ChangeOld
import Derived.Below
set_option linter.unusedSimpArgs false
set_option linter.unnecessarySimpa false
set_option linter.unusedVariables false
namespace Go.AM
open Go.RowKit (Below)

/-- A slice of integers that came in. -/
def IsRow (k : IntKind) (w : World) (a : Option Addr) (len cap : Nat) (zs : List Int) : Prop :=
  (a = none ∧ len = 0 ∧ cap = 0 ∧ zs = []) ∨
  ∃ x, a = some x ∧ len ≤ cap ∧ cap ≤ maxLen ∧ zs.length = cap ∧ (∀ i, i < zs.length → w.cell? (x.add i) = some (.int k (zs.getD i 0))) ∧ ∀ n ∈ zs, (Lit.int k n).wf = true

theorem wf_u8 {n : Int} (h : (Lit.int .u8 n).wf = true) : 0 ≤ n ∧ n ≤ 255 := by
  have e1 : IntKind.u8.min = 0 := by decide
  have e2 : IntKind.u8.max = 255 := by decide
  simpa [Lit.wf, e1, e2] using h
theorem wf_i64 {n : Int} (h : (Lit.int .i64 n).wf = true) : -9223372036854775808 ≤ n ∧ n ≤ 9223372036854775807 := by
  have e1 : IntKind.i64.min = -9223372036854775808 := by decide
  have e2 : IntKind.i64.max = 9223372036854775807 := by decide
  simpa [Lit.wf, e1, e2] using h
theorem le_maxLen {n : Nat} (h : n ≤ maxLen) : n ≤ 9223372036854775807 := h
theorem str_le {s : ByteArray} (h : s.size ≤ maxLen) : s.data.toList.length ≤ 9223372036854775807 := by
  have : s.data.toList.length = s.size := rfl
  rw [this]; exact h
theorem VR_strArg (φ : PMap) (s : ByteArray) : VR φ (.str s.data.toList) (.string s) := by simp [VR]

theorem cell_lt {w : World} {b o : Nat} {v : Value} (h : w.cell? ⟨b, o, none⟩ = some v) : b < w.heap.size := by
  simp only [World.cell?] at h
  cases hb : w.heap[b]? with
  | none => simp [hb] at h
  | some x => exact (Array.getElem?_eq_some_iff.1 hb).1

theorem isB_of_row {w : World} {a : Option Addr} {len cap : Nat} {zs : List Int} (h : IsRow .u8 w a len cap zs) :
    ∃ (v : AVal) (bs : List UInt8), VR (fun _ => none) v (.slice a len cap) ∧ IsB w (fun _ => none) v bs ∧ bs.length = len ∧ len ≤ 9223372036854775807 ∧ (v = .nilSlice ∨ ∃ l o, v = .slice l o len (.exact cap)) := by
  rcases h with ⟨rfl, rfl, rfl, rfl⟩ | ⟨⟨b, o, sp⟩, rfl, h1, h2, h3, h4, h5⟩
  · exact ⟨.nilSlice, [], by simp [VR], .nil, rfl, by omega, .inl rfl⟩
  · have hl : len ≤ 9223372036854775807 := Nat.le_trans h1 h2
    rcases Nat.eq_zero_or_pos len with e | e
    · refine ⟨.slice (.base b) o len (.exact cap), [], ?_, ?_, e.symm, hl, .inr ⟨_, _, rfl⟩⟩
      · simp only [VR]
        refine ⟨_, rfl, fun hc => ?_⟩
        have hc : 0 < cap := by omega
        have := World.cell?_spot (h4 0 (by omega))
        simp only [Addr.add] at this
        subst this
        rfl
      · exact .mk _ _ _ _ _ e (by rw [e]; rfl) h1
    · have hs : sp = none := by
        have := World.cell?_spot (h4 0 (by omega))
        simpa [Addr.add] using this
      subst hs
      refine ⟨.slice (.base b) o len (.exact cap), (zs.take len).map fun n => UInt8.ofNat n.toNat, ?_, ?_, by simp; omega, hl, .inr ⟨_, _, rfl⟩⟩
      · simp only [VR]
        exact ⟨_, rfl, fun _ => rfl⟩
      · refine .mk _ _ _ _ _ (by simp; omega) ?_ h1
        apply List.ext_getElem?
        intro i
        by_cases hi : i < len
        · rw [cellsAt_get _ _ _ _ _ _ hi]
          have hc := h4 i (by omega)
          have ea : (⟨b, o, none⟩ : Addr).add i = ⟨b, o + i, none⟩ := by by_cases e : i = 0 <;> simp [Addr.add, e]
          rw [ea] at hc
          have hz : i < zs.length := by omega
          have hw := wf_u8 (h5 (zs[i]) (List.getElem_mem hz))
          have hlt : b < w.heap.size := cell_lt hc
          simp only [rd, hlt, if_true, hc, absS]
          simp only [byteCells, List.map_map, List.getElem?_map, List.getElem?_take, hi, if_true, List.getElem?_eq_getElem hz, Option.map_some, Function.comp, List.getD, Option.getD_some]
          congr 2
          have : (UInt8.ofNat zs[i].toNat).toNat = zs[i].toNat := by simp; omega
          rw [this]; omega
        · rw [List.getElem?_eq_none (by rw [cellsAt_length]; omega), List.getElem?_eq_none (by simp [byteCells]; omega)]
end Go.AM
