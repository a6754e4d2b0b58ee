/-
  What a rounding answers once more.
  Conditions: none.
-/
import Derived.Test.YtnaioficflbioaaDoorRdH
set_option linter.unusedSimpArgs false
set_option linter.unnecessarySimpa false
set_option linter.unusedVariables false
namespace Go.Proofs.YtnaioficflbioaaDoor
open Go.AM
open Go.Proofs
open Go.Dec
open Go.Lib (decDigits)
set_option maxRecDepth 100000

theorem ofN_check (neg : Bool) (bs : List UInt8) (sc : UInt8) : checkE (ofN neg bs sc) = 0 := by
  unfold ofN
  refine check_canon _ _ _ (long_canon _ _ _ ?_ (by omega))
  have h1 := natOf_lt _ (digN_all bs)
  rw [digN_len] at h1
  exact Nat.lt_of_lt_of_le h1 (Nat.pow_le_pow_right (by omega) (by omega))
theorem gSc_bound (b : UInt8) : -62 ≤ gSc b ∧ gSc b ≤ 62 := by
  unfold gSc
  split <;> omega
theorem gDig_bound (a : UInt8) : 1 ≤ gDig a ∧ gDig a ≤ 62 := by
  unfold gDig
  split <;> omega
theorem lostB_steps (neg : Bool) (w : Nat) (s : Int) : lostB (stepsD neg w s) s = false := by
  obtain ⟨h1, h2⟩ := canon_at neg (w * 10 ^ (-s).toNat) s.toNat
  have h0 := canon_scale neg (w * 10 ^ (-s).toNat) s.toNat
  unfold lostB
  rcases Int.le_total 0 s with c | c
  · rw [decide_eq_false (by unfold stepsD; omega)]
    rfl
  · have hz : lostN (stepsD neg w s) s = 0 := by
      unfold lostN stepsD
      have e : (canon neg (w * 10 ^ (-s).toNat) s.toNat).scale = 0 := by omega
      rw [e] at h1 ⊢
      rw [show s.toNat = 0 by omega] at *
      rw [show 0 - (0 : Int).toNat = 0 from rfl, Nat.pow_zero, Nat.mul_one] at h1
      rw [h1, show (0 - s).toNat = (-s).toNat by omega]
      exact Nat.mul_mod_left _ _
    rw [hz]
    simp
theorem chosen_form {d : D} (s m : Int) (h : lostB d s = true) : ∃ w, chosenE d s m = stepsD d.neg w s := by
  unfold chosenE
  rw [if_neg (by rw [h]; decide), farE, nearE, if_pos h]
  split
  · exact ⟨_, rfl⟩
  · exact ⟨_, rfl⟩
theorem chosen_again {d : D} (hd : checkE d = 0) (s m m' : Int) (s0 : -62 ≤ s) (s1 : s ≤ 62) (m7 : m' ≤ 7) (hl : long (chosenE d s m) ≤ 62) : roundE (chosenE d s m) s m' = (chosenE d s m, 0) ∧ checkE (chosenE d s m) = 0 := by
  have hc : checkE (chosenE d s m) = 0 ∧ lostB (chosenE d s m) s = false := by
    cases hb : lostB d s with
    | false =>
      have e : chosenE d s m = d := by unfold chosenE; rw [if_pos hb]
      rw [e]
      exact ⟨hd, hb⟩
    | true =>
      obtain ⟨w, e⟩ := chosen_form s m hb
      rw [e] at hl ⊢
      exact ⟨check_canon _ _ _ hl, lostB_steps _ _ _⟩
  rw [roundE_val hc.1 _ _ s0 s1 m7, if_pos hc.2]
  exact ⟨rfl, hc.1⟩
theorem check_len {d : D} (h : checkE d = 0) : d.dig.length ≤ 9223372036854775807 := by
  have := (Small_of_check h).1.l
  omega

end Go.Proofs.YtnaioficflbioaaDoor
