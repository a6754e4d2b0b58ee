/-
  The digits at the places of a grid.
  Conditions: none.
-/
import Derived.Test.YtnaioficflbioaaDoorRdK
set_option linter.unusedSimpArgs false
set_option linter.unnecessarySimpa false
set_option linter.unusedVariables false
namespace Go.Proofs.YtnaioficflbioaaDoor
open Go.AM
open Go.Proofs
open Go.Dec
open Go.Lib (decDigits)
set_option maxRecDepth 100000

/-- The digit at a place: 1, 2, .. behind the point, 0, -1, .. ahead of it. -/
def digitAt (d : D) (p : Int) : UInt8 :=
  if 0 ≤ (d.dig.length : Int) - 1 - (d.scale - p) ∧ (d.dig.length : Int) - 1 - (d.scale - p) < d.dig.length then d.dig.getD ((d.dig.length : Int) - 1 - (d.scale - p)).toNat 0 else 48
def placesL (d : D) (g s : Int) : List UInt8 := (List.range g.toNat).map fun (i : Nat) => digitAt d (s - g + 1 + (i : Int))
/-- The digits up to the place s. -/
def upTo (d : D) (s : Int) : List UInt8 := if 0 ≤ s - d.scale then d.dig ++ List.replicate (s - d.scale).toNat 48 else d.dig.take (max ((d.dig.length : Int) + (s - d.scale)) 0).toNat
theorem upTo_len (d : D) (s : Int) : ((upTo d s).length : Int) = max ((d.dig.length : Int) + (s - d.scale)) 0 := by
  unfold upTo
  split
  · simp; omega
  · simp; omega
theorem upTo_at (d : D) (s : Int) (i : Nat) (hi : i < (upTo d s).length) : (upTo d s)[i] = if i < d.dig.length then d.dig.getD i 0 else 48 := by
  have hl := upTo_len d s
  unfold upTo at hi ⊢
  split
  · rename_i c
    rw [List.getElem_append]
    split
    · rename_i h; rw [List.getD, List.getElem?_eq_getElem h]; rfl
    · simp
  · rename_i c
    have : i < d.dig.length := by
      rw [if_neg c, List.length_take] at hi; omega
    rw [if_pos this, List.getElem_take, List.getD, List.getElem?_eq_getElem this]
    rfl
theorem last_places (d : D) (g s : Int) (g0 : 1 ≤ g) (hc : (cutE d s).2.1 = true) :
    (placesE d g s).1.drop (((placesE d g s).1.length : Int) - g).toNat = placesL d g s := by
  have hl := upTo_len d s
  have e : (placesE d g s).1 = List.replicate (max (g - (upTo d s).length) 0).toNat 48 ++ upTo d s := by
    rw [placesE, if_neg (by rw [hc]; decide)]
    rfl
  rw [e]
  apply List.ext_getElem
  · simp [placesL]; omega
  · intro j h1 h2
    have hj : (j : Int) < g := by simp [placesL] at h2; omega
    simp only [List.length_append, List.length_replicate] at *
    simp only [placesL, List.getElem_map, List.getElem_range, List.getElem_drop, List.getElem_append, List.length_replicate]
    unfold digitAt
    split
    · rename_i h
      rw [List.getElem_replicate, if_neg (by omega)]
    · rename_i h
      rw [upTo_at]
      by_cases c : (d.dig.length : Int) - 1 - (d.scale - (s - g + 1 + j)) < d.dig.length
      · rw [if_pos (by omega), if_pos (by omega)]
        congr 1
        omega
      · rw [if_neg (by omega), if_neg (by omega)]
theorem lost_drop {d : D} (dd : d.dig.all dg = true) (s : Int) : lostN d s = natOf (d.dig.drop (d.dig.length - (d.scale - s).toNat)) := by
  unfold lostN
  have h := natOf_append (d.dig.take (d.dig.length - (d.scale - s).toNat)) (d.dig.drop (d.dig.length - (d.scale - s).toNat))
  rw [List.take_append_drop] at h
  have hall : (d.dig.drop (d.dig.length - (d.scale - s).toNat)).all dg = true := by
    rw [List.all_eq_true] at dd ⊢
    exact fun x hx => dd x (List.mem_of_mem_drop hx)
  have hlt := natOf_lt _ hall
  have hle : (d.dig.drop (d.dig.length - (d.scale - s).toNat)).length ≤ (d.scale - s).toNat := by rw [List.length_drop]; omega
  have hlt' := Nat.lt_of_lt_of_le hlt (Nat.pow_le_pow_right (show 0 < 10 by omega) hle)
  by_cases c : (d.scale - s).toNat ≤ d.dig.length
  · have hk : (d.dig.drop (d.dig.length - (d.scale - s).toNat)).length = (d.scale - s).toNat := by rw [List.length_drop]; omega
    rw [h, hk, Nat.mul_comm, Nat.mul_add_mod, Nat.mod_eq_of_lt hlt']
  · have hz : d.dig.length - (d.scale - s).toNat = 0 := by omega
    rw [hz, List.drop_zero] at hlt' ⊢
    exact Nat.mod_eq_of_lt hlt'
theorem inside_iff {d : D} (dd : d.dig.all dg = true) (s : Int) : lostB d s = false ↔ ∀ i : Nat, i < d.dig.length → d.dig.getD i 0 ≠ 48 → d.scale - ((d.dig.length : Int) - 1 - i) ≤ s := by
  have hall : (d.dig.drop (d.dig.length - (d.scale - s).toNat)).all dg = true := by
    rw [List.all_eq_true] at dd ⊢
    exact fun x hx => dd x (List.mem_of_mem_drop hx)
  have hz := natOf_zero_iff _ hall
  unfold lostB
  rw [lost_drop dd]
  constructor
  · intro h i hi hne
    refine Classical.byContradiction fun hc => hne ?_
    rw [decide_eq_true (by omega), Bool.true_and, Bool.not_eq_false', decide_eq_true_eq] at h
    refine hz.1 h _ ?_
    rw [List.mem_drop_iff_getElem]
    exact ⟨i - (d.dig.length - (d.scale - s).toNat), by omega, by
      rw [List.getD, List.getElem?_eq_getElem hi]
      simp only [Option.getD_some]
      congr 1
      omega⟩
  · intro h
    rw [Bool.and_eq_false_iff]
    by_cases c : s < d.scale
    · refine .inr ?_
      rw [Bool.not_eq_false', decide_eq_true_eq]
      refine hz.2 fun b hb => ?_
      obtain ⟨j, hj, e⟩ := List.mem_drop_iff_getElem.1 hb
      refine Classical.byContradiction fun hne => ?_
      have hj' : d.dig.length - (d.scale - s).toNat + j < d.dig.length := by omega
      have := h _ hj' (by rw [List.getD, List.getElem?_eq_getElem hj', Option.getD_some, e]; exact hne)
      omega
    · exact .inl (by simpa using c)
theorem small_iff (d : D) (g s : Int) (g0 : 1 ≤ g) (hc : (cutE d s).2.1 = true) :
    ((placesE d g s).1.take (((placesE d g s).1.length : Int) - g).toNat).all (· == 48) = true ↔ ∀ i : Nat, i < d.dig.length → d.dig.getD i 0 ≠ 48 → s - g < d.scale - ((d.dig.length : Int) - 1 - i) := by
  have hl := upTo_len d s
  have e : (placesE d g s).1 = List.replicate (max (g - (upTo d s).length) 0).toNat 48 ++ upTo d s := by
    rw [placesE, if_neg (by rw [hc]; decide)]
    rfl
  have e2 : (placesE d g s).1.take (((placesE d g s).1.length : Int) - g).toNat = (upTo d s).take ((upTo d s).length - g.toNat) := by
    rw [e]
    by_cases c : g ≤ (upTo d s).length
    · rw [show (max (g - (upTo d s).length) 0).toNat = 0 by omega, List.replicate_zero, List.nil_append, show (((upTo d s).length : Int) - g).toNat = (upTo d s).length - g.toNat by omega]
    · rw [show (upTo d s).length - g.toNat = 0 by omega, List.length_append, List.length_replicate, show (((max (g - (upTo d s).length) 0).toNat + (upTo d s).length : Nat) - g : Int).toNat = 0 by omega, List.take_zero, List.take_zero]
  rw [e2, List.all_eq_true]
  constructor
  · intro h i hi hne
    refine Classical.byContradiction fun hp => hne ?_
    have hlt : i < (upTo d s).length := by omega
    have := h _ (List.mem_take_iff_getElem.2 ⟨i, by omega, rfl⟩)
    rw [upTo_at, if_pos hi] at this
    simpa using this
  · intro h b hb
    obtain ⟨q, hq, e⟩ := List.mem_take_iff_getElem.1 hb
    rw [upTo_at] at e
    rw [beq_iff_eq, ← e]
    by_cases c : q < d.dig.length
    · rw [if_pos c]
      refine Classical.byContradiction fun hne => ?_
      have := h q c hne
      omega
    · rw [if_neg c]
end Go.Proofs.YtnaioficflbioaaDoor
