/-
  Decimals as numbers.
  Conditions: none.
-/
import Derived.Test.YthiiakghjoeikaaGreatDoorDcI
set_option linter.unusedSimpArgs false
set_option linter.unnecessarySimpa false
set_option linter.unusedVariables false
namespace Go.Proofs.YthiiakghjoeikaaGreatDoor
open Go.AM
open Go.Proofs
open Go.Dec
open Go.Lib (decDigits)
set_option maxRecDepth 100000

theorem canon_bound (neg : Bool) (n k L : Nat) (hL : 0 < L) (hn : n < 10 ^ L) : (canon neg n k).dig.length ≤ L ∧ (canon neg n k).scale ≤ k := by
  unfold canon
  split
  · exact ⟨by show 1 ≤ L; omega, by show (0 : Int) ≤ k; omega⟩
  · obtain ⟨h1, h2⟩ := strip_val k n
    refine ⟨(decDigits_lt hL).2 (Nat.lt_of_le_of_lt ?_ hn), by simp only; omega⟩
    have h3 : 10 ^ (strip n k).2 ≤ 10 ^ k := Nat.pow_le_pow_right (by omega) h2
    have h4 : (strip n k).1 * 10 ^ k ≤ n * 10 ^ k := by rw [h1]; exact Nat.mul_le_mul_left _ h3
    exact Nat.le_of_mul_le_mul_right h4 (Nat.pow_pos (by omega))
theorem canon_scale (neg : Bool) (n k : Nat) : 0 ≤ (canon neg n k).scale := by
  unfold canon
  split
  · decide
  · simp only; omega
theorem canon_all (neg : Bool) (n k : Nat) : (canon neg n k).dig.all dg = true := by
  unfold canon
  split
  · decide
  · exact decDigits_all _
theorem natOf_canon (neg : Bool) (n k : Nat) : natOf (canon neg n k).dig = (if n = 0 then 0 else (strip n k).1) ∧ (canon neg n k).scale = (if n = 0 then (0 : Int) else ((strip n k).2 : Int)) ∧ (canon neg n k).neg = (if n = 0 then false else neg) := by
  unfold canon
  split
  · exact ⟨rfl, rfl, rfl⟩
  · exact ⟨natOf_decDigits _, rfl, rfl⟩
theorem canon_at (neg : Bool) (n k : Nat) : natOf (canon neg n k).dig * 10 ^ (k - (canon neg n k).scale.toNat) = n ∧ (canon neg n k).scale.toNat ≤ k := by
  obtain ⟨h1, h2, _⟩ := natOf_canon neg n k
  by_cases hn : n = 0
  · rw [h1, h2, if_pos hn, if_pos hn, hn]
    exact ⟨Nat.zero_mul _, Nat.zero_le _⟩
  · rw [h1, h2, if_neg hn, if_neg hn, Int.toNat_natCast]
    obtain ⟨s1, s2⟩ := strip_val k n
    refine ⟨?_, s2⟩
    have hp : 0 < 10 ^ (strip n k).2 := Nat.pow_pos (by omega)
    refine Nat.eq_of_mul_eq_mul_right hp ?_
    rw [Nat.mul_assoc, ← Nat.pow_add, Nat.sub_add_cancel s2, s1]
theorem canon_self (neg : Bool) (n k : Nat) : canon (canon neg n k).neg (natOf (canon neg n k).dig) (canon neg n k).scale.toNat = canon neg n k := by
  obtain ⟨h1, h2, h3⟩ := natOf_canon neg n k
  by_cases hn : n = 0
  · subst hn; rfl
  · rw [h1, h2, h3, if_neg hn, if_neg hn, if_neg hn, Int.toNat_natCast]
    have hs : strip (strip n k).1 (strip n k).2 = ((strip n k).1, (strip n k).2) := strip_done (strip_end k n)
    unfold canon
    rw [if_neg (strip_pos k n hn), if_neg hn, hs]
theorem canon_ne (neg : Bool) (n k : Nat) : (canon neg n k).dig ≠ [] := by
  unfold canon
  split
  · simp [zeroD]
  · exact decDigits_ne _
theorem check_canon (neg : Bool) (n k : Nat) (h : long (canon neg n k) ≤ 62) : checkE (canon neg n k) = 0 := by
  have h0 := canon_scale neg n k
  unfold long at h
  unfold checkE
  rw [if_pos]
  refine ⟨?_, by omega, h0, by omega, ?_⟩
  · unfold numB
    rw [canon_all, Bool.and_true, decide_eq_false (canon_ne neg n k)]
    rfl
  · rw [normE, show (-(canon neg n k).scale).toNat = 0 by omega, Nat.pow_zero, Nat.mul_one, canon_self, resE_ok (by unfold long; omega)]
theorem val_canon {d : D} (h : checkE d = 0) : d = canon d.neg (natOf d.dig) d.scale.toNat ∧ long d ≤ 62 := by
  obtain ⟨sd, _, _, hn⟩ := Small_of_check h
  have ha1 := sd.l
  have ha2 := sd.s0
  have ha3 := sd.s1
  have hl : long d ≤ 62 := by unfold long; omega
  rw [normE, show (-d.scale).toNat = 0 by omega, Nat.pow_zero, Nat.mul_one] at hn
  unfold resE at hn
  split at hn
  · cases hn
  · exact ⟨(Prod.mk.inj hn).1.symm, hl⟩
theorem long_canon (neg : Bool) (n k : Nat) (hn : n < 10 ^ 62) (hk : k ≤ 62) : long (canon neg n k) ≤ 62 := by
  obtain ⟨c1, c2⟩ := canon_bound neg n k 62 (by omega) hn
  unfold long
  omega
theorem alV_at {a b : D} (sa : Small a) (sb : Small b) (K : Nat) (ha : a.scale ≤ K) (hb : b.scale ≤ K) : alV a b * 10 ^ (K - (alS a b).toNat) = natOf a.dig * 10 ^ (K - a.scale.toNat) ∧ (alS a b).toNat ≤ K ∧ 0 ≤ alS a b := by
  have h1 := sa.s0
  have h2 := sb.s0
  have hS : alS a b = max a.scale b.scale := rfl
  refine ⟨?_, by omega, by omega⟩
  rw [alV, Nat.mul_assoc, ← Nat.pow_add]
  congr 2
  omega
theorem norm_at (neg : Bool) (n : Nat) (S : Int) (K : Nat) (h0 : 0 ≤ S) (hK : S.toNat ≤ K) : normE neg n S = resE (canon neg (n * 10 ^ (K - S.toNat)) K) := by
  rw [normE, show (-S).toNat = 0 by omega, Nat.pow_zero, Nat.mul_one]
  have := canon_mul neg (K - S.toNat) n S.toNat
  rw [show S.toNat + (K - S.toNat) = K by omega] at this
  rw [this]
theorem add_at {a b : D} (ca : checkE a = 0) (cb : checkE b = 0) (K : Nat) (ha : a.scale ≤ K) (hb : b.scale ≤ K) :
    addE a b = if a.neg = b.neg then resE (canon a.neg (natOf a.dig * 10 ^ (K - a.scale.toNat) + natOf b.dig * 10 ^ (K - b.scale.toNat)) K)
      else if natOf b.dig * 10 ^ (K - b.scale.toNat) ≤ natOf a.dig * 10 ^ (K - a.scale.toNat) then resE (canon a.neg (natOf a.dig * 10 ^ (K - a.scale.toNat) - natOf b.dig * 10 ^ (K - b.scale.toNat)) K)
      else resE (canon b.neg (natOf b.dig * 10 ^ (K - b.scale.toNat) - natOf a.dig * 10 ^ (K - a.scale.toNat)) K) := by
  obtain ⟨sa, _, _, _⟩ := Small_of_check ca
  obtain ⟨sb, _, _, _⟩ := Small_of_check cb
  obtain ⟨e1, e2, e3⟩ := alV_at sa sb K ha hb
  obtain ⟨f1, _, _⟩ := alV_at sb sa K hb ha
  rw [alS_comm b a] at f1
  have hp : 0 < 10 ^ (K - (alS a b).toNat) := Nat.pow_pos (by omega)
  rw [addE, if_pos ⟨ca, cb⟩, norm_at _ _ _ K e3 e2, norm_at _ _ _ K e3 e2, norm_at _ _ _ K e3 e2, Nat.add_mul, Nat.sub_mul, Nat.sub_mul, e1, f1]
  by_cases c : alV b a ≤ alV a b
  · have : natOf b.dig * 10 ^ (K - b.scale.toNat) ≤ natOf a.dig * 10 ^ (K - a.scale.toNat) := by rw [← e1, ← f1]; exact Nat.mul_le_mul_right _ c
    rw [if_pos c, if_pos this]
  · have : ¬ natOf b.dig * 10 ^ (K - b.scale.toNat) ≤ natOf a.dig * 10 ^ (K - a.scale.toNat) := by
      rw [← e1, ← f1]
      exact fun h => c (Nat.le_of_mul_le_mul_right h hp)
    rw [if_neg c, if_neg this]
end Go.Proofs.YthiiakghjoeikaaGreatDoor
