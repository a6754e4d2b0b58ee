/-
  A changed sign is kept by the rounding, Greater and Lesser exchanged.
  Conditions: none.
-/
import Derived.Test.YtnaioficflbioaaDoorRdI
set_option linter.unnecessarySimpa false
set_option linter.unusedSimpArgs false
set_option linter.unusedVariables false
namespace Go.Proofs.YtnaioficflbioaaDoor
open Go.AM
open Go.Proofs
open Go.Dec
open Go.Lib (decDigits)
set_option maxRecDepth 100000

def swM (m : Int) : Int := if m = 5 then 6 else if m = 6 then 5 else m
theorem dig_zero (neg : Bool) (n k : Nat) : decide ((canon neg n k).dig = [48]) = decide (n = 0) := by
  obtain ⟨h1, _, _⟩ := natOf_canon neg n k
  by_cases hn : n = 0
  · subst hn; rfl
  · rw [decide_eq_false hn, decide_eq_false]
    intro e
    rw [e, if_neg hn] at h1
    have hp := strip_pos k n (by omega)
    have : natOf [48] = 0 := by decide
    omega
theorem other_canon (neg : Bool) (n k : Nat) : otherD (canon neg n k) = canon (!neg) n k := by
  rw [otherD, dig_zero]
  obtain ⟨_, _, h3⟩ := natOf_canon neg n k
  rw [h3]
  by_cases hn : n = 0
  · subst hn; rfl
  · rw [if_neg hn, decide_eq_false hn, Bool.not_false, Bool.and_true]
    unfold canon
    rw [if_neg hn, if_neg hn]
theorem check_other {d : D} (h : checkE d = 0) : checkE (otherD d) = 0 := by
  obtain ⟨e, hl⟩ := val_canon h
  have hl' : long (otherD d) ≤ 62 := hl
  rw [e, other_canon] at hl' ⊢
  exact check_canon _ _ _ hl'
theorem other_twice {d : D} (h : checkE d = 0) : otherD (otherD d) = d := by
  obtain ⟨e, _⟩ := val_canon h
  rw [e, other_canon, other_canon, Bool.not_not]
theorem other_neg {d : D} {s : Int} (h : lostB d s = true) : (otherD d).neg = !d.neg := by
  have : decide (d.dig = [48]) = false := by
    rw [decide_eq_false]
    intro e
    have hz : lostN d s = 0 := by rw [lostN, e, show natOf [48] = 0 by decide, Nat.zero_mod]
    unfold lostB at h
    rw [hz] at h
    simp at h
  rw [otherD, this]
  simp
theorem out_other {d near : D} {s : Int} (h : lostB d s = true) (m : Int) : outE (otherD d) (otherD near) s (swM m) = outE d near s m := by
  have e1 : halfN (otherD d) s = halfN d s := rfl
  have e2 : oddE (otherD near) s = oddE near s := rfl
  have e3 := other_neg h
  unfold outE
  rw [e1, e2, e3]
  unfold swM
  by_cases c5 : m = 5
  · subst c5; rfl
  · by_cases c6 : m = 6
    · subst c6; simp
    · rw [if_neg c5, if_neg c6]
      simp only [if_neg c5, if_neg c6]
theorem chosen_other {d : D} {s : Int} (h : lostB d s = true) (m : Int) : chosenE (otherD d) s (swM m) = otherD (chosenE d s m) := by
  have h' : lostB (otherD d) s = true := h
  have n1 : nearE (otherD d) s = otherD (nearE d s) := by
    rw [nearE, nearE, if_pos h, if_pos h', other_neg h]
    unfold stepsD
    rw [other_canon]
    rfl
  have f1 : farE (otherD d) s = otherD (farE d s) := by
    rw [farE, farE, if_pos h, if_pos h', other_neg h]
    unfold stepsD
    rw [other_canon]
    rfl
  unfold chosenE
  rw [if_neg (show ¬lostB (otherD d) s = false by rw [h']; decide), if_neg (show ¬lostB d s = false by rw [h]; decide), n1, f1, out_other h]
  split <;> rfl
theorem round_other {d : D} (hv : checkE d = 0) (s m : Int) (s0 : -62 ≤ s) (s1 : s ≤ 62) (m0 : 0 ≤ m) (m7 : m ≤ 7) :
    ∃ c c' e, roundE d s m = (c, e) ∧ roundE (otherD d) s (swM m) = (c', e) ∧ (e = 0 → checkE c' = 0 ∧ otherD c' = c) ∧ c'.dig.length ≤ 9223372036854775807 := by
  have hs7 : swM m ≤ 7 := by unfold swM; split <;> (try split) <;> omega
  have r1 := roundE_val hv s m s0 s1 m7
  have r2 := roundE_val (check_other hv) s (swM m) s0 s1 hs7
  cases hb : lostB d s with
  | false =>
    have hb' : lostB (otherD d) s = false := hb
    rw [if_pos hb] at r1
    rw [if_pos hb'] at r2
    exact ⟨_, _, _, r1, r2, fun _ => ⟨check_other hv, other_twice hv⟩, check_len (check_other hv)⟩
  | true =>
    have hb' : lostB (otherD d) s = true := hb
    rw [if_neg (by rw [hb]; decide)] at r1
    rw [if_neg (by rw [hb']; decide)] at r2
    by_cases c7 : m = 7
    · have c7' : swM m = 7 := by subst c7; rfl
      rw [if_pos c7] at r1
      rw [if_pos c7'] at r2
      exact ⟨_, _, _, r1, r2, fun h => absurd h (by decide), by decide⟩
    · have c7' : ¬swM m = 7 := by unfold swM; split <;> (try split) <;> omega
      rw [if_neg c7] at r1
      rw [if_neg c7', chosen_other hb] at r2
      obtain ⟨w, e⟩ := chosen_form s m hb
      by_cases hl : 62 < long (chosenE d s m)
      · have hl' : 62 < long (otherD (chosenE d s m)) := hl
        rw [resE_long hl] at r1
        rw [resE_long hl'] at r2
        exact ⟨_, _, _, r1, r2, fun h => absurd h (by decide), by decide⟩
      · have hl' : ¬62 < long (otherD (chosenE d s m)) := hl
        have hc : checkE (chosenE d s m) = 0 := by
          rw [e] at hl ⊢
          exact check_canon _ _ _ (by unfold stepsD at hl; omega)
        rw [resE_ok hl] at r1
        rw [resE_ok hl'] at r2
        exact ⟨_, _, _, r1, r2, fun _ => ⟨check_other hc, other_twice hc⟩, check_len (check_other hc)⟩

end Go.Proofs.YtnaioficflbioaaDoor
