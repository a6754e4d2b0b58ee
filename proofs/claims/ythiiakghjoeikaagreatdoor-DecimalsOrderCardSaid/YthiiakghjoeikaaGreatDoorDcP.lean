/-
  Numbers from plain data are numbers.
  Conditions: none.
-/
import Derived.Test.YthiiakghjoeikaaGreatDoorDcO
import Derived.Test.YthiiakghjoeikaaGreatDoorLwA
set_option linter.unusedSimpArgs false
set_option linter.unnecessarySimpa false
set_option linter.unusedVariables false
namespace Go.Proofs.YthiiakghjoeikaaGreatDoor
open Go.AM
open Go.Proofs
open Go.Dec
open Go.Lib (decDigits)
set_option maxRecDepth 100000

theorem ofN_check (neg : Bool) (bs : List UInt8) (sc : UInt8) : checkE (ofN neg bs sc) = 0 := by
  unfold ofN
  refine check_canon _ _ _ (long_canon _ _ _ ?_ (by omega))
  have h1 := natOf_lt _ (digN_all bs)
  rw [digN_len] at h1
  exact Nat.lt_of_lt_of_le h1 (Nat.pow_le_pow_right (by omega) (by omega))
theorem check_len {d : D} (h : checkE d = 0) : d.dig.length ≤ 9223372036854775807 := by
  have := (Small_of_check h).1.l
  omega
theorem dg_two (b : UInt8) : (decide (48 ≤ (b.toNat : Int)) && decide ((b.toNat : Int) ≤ 57)) = dg b := by
  unfold dg
  rw [Bool.eq_iff_iff]
  simp only [Bool.and_eq_true, decide_eq_true_eq]
  omega
/-- A number cut, as a number. -/
def cutD (d : D) (n : Int) : D := canon d.neg (natOf d.dig / 10 ^ (d.scale - n).toNat * 10 ^ (d.scale - n).toNat) d.scale.toNat
theorem cutD_check {d : D} (h : checkE d = 0) (n : Int) : checkE (cutD d n) = 0 := by
  obtain ⟨sd, dd, _, _⟩ := Small_of_check h
  have h1 := sd.l
  have h2 := sd.s1
  have h3 := sd.s0
  refine check_canon _ _ _ (long_canon _ _ _ ?_ (by omega))
  refine Nat.lt_of_le_of_lt (Nat.div_mul_le_self _ _) (Nat.lt_of_lt_of_le (natOf_lt _ dd) (Nat.pow_le_pow_right (by omega) h1))
theorem cut_val {d : D} (h : checkE d = 0) (n : Int) : cutE d n = (cutD d n, decide (cutD d n = d), 0) := by
  obtain ⟨sd, dd, _, _⟩ := Small_of_check h
  have h3 := sd.s0
  obtain ⟨v1, v2⟩ := val_canon h
  unfold cutE
  rw [if_pos h]
  split
  · rename_i hs
    have e : cutD d n = d := by
      unfold cutD
      rw [show (d.scale - n).toNat = 0 by omega, Nat.pow_zero, Nat.div_one, Nat.mul_one]
      exact v1.symm
    rw [e, decide_eq_true rfl]
  · have hl := (val_canon (cutD_check h n)).2
    have e : normE d.neg (natOf d.dig / 10 ^ (d.scale - n).toNat * 10 ^ (d.scale - n).toNat) d.scale = (cutD d n, 0) := by
      rw [normE, show (-d.scale).toNat = 0 by omega, Nat.pow_zero, Nat.mul_one]
      exact resE_ok (by unfold cutD at hl; omega)
    rw [e]
    simp only [Prod.mk.injEq, and_true, true_and]
    rw [Bool.eq_iff_iff, decide_eq_true_eq, decide_eq_true_eq]
    have hdm := Nat.div_add_mod' (natOf d.dig) (10 ^ (d.scale - n).toNat)
    constructor
    · intro e0
      rw [e0, Nat.add_zero] at hdm
      unfold cutD
      rw [hdm]
      exact v1.symm
    · intro e0
      have a1 := (canon_at d.neg (natOf d.dig / 10 ^ (d.scale - n).toNat * 10 ^ (d.scale - n).toNat) d.scale.toNat).1
      have e1 : canon d.neg (natOf d.dig / 10 ^ (d.scale - n).toNat * 10 ^ (d.scale - n).toNat) d.scale.toNat = d := e0
      rw [e1, Nat.sub_self, Nat.pow_zero, Nat.mul_one] at a1
      omega
end Go.Proofs.YthiiakghjoeikaaGreatDoor
