/-
  What the package roundings computes, as numbers.
  Conditions: none.
-/
import Derived.Test.YtnaioficflbioaaDoorRdE
set_option linter.unusedSimpArgs false
set_option linter.unnecessarySimpa false
set_option linter.unusedVariables false
namespace Go.Proofs.YtnaioficflbioaaDoor
open Go.AM
open Go.Proofs
open Go.Dec
open Go.Lib (decDigits)
set_option maxRecDepth 100000

theorem natOf_canon (neg : Bool) (n k : Nat) : natOf (canon neg n k).dig = (if n = 0 then 0 else (strip n k).1) ∧ (canon neg n k).scale = (if n = 0 then (0 : Int) else ((strip n k).2 : Int)) ∧ (canon neg n k).neg = (if n = 0 then false else neg) := by
  unfold canon
  split
  · exact ⟨rfl, rfl, rfl⟩
  · exact ⟨natOf_decDigits _, rfl, rfl⟩
/-- The number that a number in normal form is, at a scale that is not less. -/
theorem canon_at (neg : Bool) (n k : Nat) : natOf (canon neg n k).dig * 10 ^ (k - (canon neg n k).scale.toNat) = n ∧ (canon neg n k).scale.toNat ≤ k := by
  obtain ⟨h1, h2, _⟩ := natOf_canon neg n k
  by_cases hn : n = 0
  · rw [h1, h2, if_pos hn, if_pos hn, hn]
    exact ⟨Nat.zero_mul _, Nat.zero_le _⟩
  · rw [h1, h2, if_neg hn, if_neg hn, Int.toNat_natCast]
    obtain ⟨s1, s2⟩ := strip_val k n
    refine ⟨?_, s2⟩
    have hp : 0 < 10 ^ (strip n k).2 := Nat.pow_pos (by omega)
    refine Nat.eq_of_mul_eq_mul_right hp ?_
    rw [Nat.mul_assoc, ← Nat.pow_add, Nat.sub_add_cancel s2, s1]
theorem canon_self (neg : Bool) (n k : Nat) : canon (canon neg n k).neg (natOf (canon neg n k).dig) (canon neg n k).scale.toNat = canon neg n k := by
  obtain ⟨h1, h2, h3⟩ := natOf_canon neg n k
  by_cases hn : n = 0
  · subst hn; rfl
  · rw [h1, h2, h3, if_neg hn, if_neg hn, if_neg hn, Int.toNat_natCast]
    have hs : strip (strip n k).1 (strip n k).2 = ((strip n k).1, (strip n k).2) := strip_done (strip_end k n)
    unfold canon
    rw [if_neg (strip_pos k n hn), if_neg hn, hs]
theorem canon_ne (neg : Bool) (n k : Nat) : (canon neg n k).dig ≠ [] := by
  unfold canon
  split
  · simp [zeroD]
  · exact decDigits_ne _
theorem check_canon (neg : Bool) (n k : Nat) (h : long (canon neg n k) ≤ 62) : checkE (canon neg n k) = 0 := by
  have h0 := canon_scale neg n k
  unfold long at h
  unfold checkE
  rw [if_pos]
  refine ⟨?_, by omega, h0, by omega, ?_⟩
  · unfold numB
    rw [canon_all, Bool.and_true, decide_eq_false (canon_ne neg n k)]
    rfl
  · rw [normE, show (-(canon neg n k).scale).toNat = 0 by omega, Nat.pow_zero, Nat.mul_one, canon_self, resE_ok (by unfold long; omega)]
theorem val_canon {d : D} (h : checkE d = 0) : d = canon d.neg (natOf d.dig) d.scale.toNat ∧ long d ≤ 62 := by
  obtain ⟨sd, _, _, hn⟩ := Small_of_check h
  have ha1 := sd.l
  have ha2 := sd.s0
  have ha3 := sd.s1
  have hl : long d ≤ 62 := by unfold long; omega
  rw [normE, show (-d.scale).toNat = 0 by omega, Nat.pow_zero, Nat.mul_one] at hn
  unfold resE at hn
  split at hn
  · cases hn
  · exact ⟨(Prod.mk.inj hn).1.symm, hl⟩
theorem long_canon (neg : Bool) (n k : Nat) (hn : n < 10 ^ 62) (hk : k ≤ 62) : long (canon neg n k) ≤ 62 := by
  obtain ⟨c1, c2⟩ := canon_bound neg n k 62 (by omega) hn
  unfold long
  omega
theorem canon_scaled (neg : Bool) (m : Nat) (s : Int) (k : Nat) (hk : s ≤ k) : canon neg (m * 10 ^ (k - s).toNat) k = stepsD neg m s := by
  unfold stepsD
  rcases Int.le_total 0 s with c | c
  · rw [show (-s).toNat = 0 by omega, Nat.pow_zero, Nat.mul_one]
    have := canon_mul neg ((k : Int) - s).toNat m s.toNat
    rw [show s.toNat + ((k : Int) - s).toNat = k by omega] at this
    exact this
  · rw [show s.toNat = 0 by omega]
    have := canon_mul neg k (m * 10 ^ (-s).toNat) 0
    rw [Nat.zero_add, Nat.mul_assoc, ← Nat.pow_add, show (-s).toNat + k = ((k : Int) - s).toNat by omega] at this
    exact this

theorem cutE_val {d : D} (h : checkE d = 0) (s : Int) : cutE d s = if lostB d s = true then (nearE d s, false, 0) else (d, true, 0) := by
  obtain ⟨hc, hl⟩ := val_canon h
  obtain ⟨sd, dd, _, hn⟩ := Small_of_check h
  have ha1 := sd.l
  have ha2 := sd.s0
  have ha3 := sd.s1
  have hlt := natOf_lt _ dd
  have hlt2 : natOf d.dig < 10 ^ 62 := Nat.lt_of_lt_of_le hlt (Nat.pow_le_pow_right (by omega) ha1)
  unfold cutE
  rw [if_pos h]
  by_cases c : d.scale ≤ s
  · rw [if_pos c, if_neg]
    unfold lostB
    rw [decide_eq_false (by omega)]
    simp
  · rw [if_neg c]
    have hN : normE d.neg (natOf d.dig / 10 ^ (d.scale - s).toNat * 10 ^ (d.scale - s).toNat) d.scale = (stepsD d.neg (wholeN d s) s, 0) := by
      rw [normE, show (-d.scale).toNat = 0 by omega, Nat.pow_zero, Nat.mul_one]
      have e := canon_scaled d.neg (wholeN d s) s d.scale.toNat (by omega)
      rw [show ((d.scale.toNat : Nat) : Int) = d.scale by omega, wholeN] at e
      have hb := long_canon d.neg (natOf d.dig / 10 ^ (d.scale - s).toNat * 10 ^ (d.scale - s).toNat) d.scale.toNat (Nat.lt_of_le_of_lt (Nat.div_mul_le_self _ _) hlt2) (by omega)
      rw [resE_ok (by omega), e]
      rfl
    rw [hN]
    by_cases z : lostN d s = 0
    · have hb : ¬ lostB d s = true := by unfold lostB; rw [z]; simp
      rw [if_neg hb]
      have e0 : natOf d.dig / 10 ^ (d.scale - s).toNat * 10 ^ (d.scale - s).toNat = natOf d.dig := Nat.div_mul_cancel (Nat.dvd_of_mod_eq_zero z)
      rw [e0, hn] at hN
      rw [show natOf d.dig % 10 ^ (d.scale - s).toNat = 0 from z]
      rw [← hN]
      rfl
    · have hb : lostB d s = true := by unfold lostB; rw [decide_eq_true (by omega), decide_eq_false z]; rfl
      rw [if_pos hb, nearE, if_pos hb]
      rw [show decide (natOf d.dig % 10 ^ (d.scale - s).toNat = 0) = false from decide_eq_false z]

theorem half_val {d : D} (dd : d.dig.all dg = true) (s : Int) (hs : s < d.scale) : halfE d s = halfN d s := by
  have hlt := natOf_lt _ dd
  unfold halfE halfN
  by_cases c : (d.dig.length : Int) < d.scale - s
  · rw [if_pos c, if_pos]
    have e : d.dig.length + 1 ≤ (d.scale - s).toNat := by omega
    have e1 : 10 ^ (d.dig.length + 1) ≤ 10 ^ (d.scale - s).toNat := Nat.pow_le_pow_right (by omega) e
    rw [Nat.pow_succ] at e1
    have : lostN d s ≤ natOf d.dig := Nat.mod_le _ _
    omega
  · rw [if_neg c]
    have hm : (d.scale - s).toNat ≤ d.dig.length := by omega
    obtain ⟨_, sp2⟩ := natOf_split d.dig dd _ hm
    obtain ⟨l, hl⟩ : ∃ l, l = d.dig.drop (d.dig.length - (d.scale - s).toNat) := ⟨_, rfl⟩
    rw [← hl] at sp2 ⊢
    have hll : l.length = (d.scale - s).toNat := by rw [hl]; simp; omega
    have la : l.all dg = true := by
      rw [List.all_eq_true] at dd ⊢
      exact fun b hb => dd b (List.mem_of_mem_drop (hl ▸ hb))
    have lne : l ≠ [] := fun e => by rw [e] at hll; simp at hll; omega
    have e := cons_of l lne
    have la' := la
    rw [e] at la'
    simp only [List.all_cons, Bool.and_eq_true] at la'
    obtain ⟨q1, q2, q3, q4⟩ := half_first _ _ la'.1 la'.2
    rw [← e, sp2, hll] at q1 q2 q3 q4
    have hz : (List.drop 1 l).all (· == 48) = true ↔ natOf (l.drop 1) = 0 := by
      rw [natOf_zero_iff _ la'.2, List.all_eq_true]
      simp
    unfold halfL
    rw [show natOf d.dig % 10 ^ (d.scale - s).toNat = lostN d s from rfl] at q1 q2 q3 q4
    by_cases c1 : (l.getD 0 0).toNat < 53
    · rw [if_pos c1, if_pos (q1 c1)]
    · rw [if_neg c1]
      by_cases c2 : 53 < (l.getD 0 0).toNat
      · have := q2 c2
        rw [if_pos (.inl c2), if_neg (by omega), if_neg (by omega)]
      · have c3 : (l.getD 0 0).toNat = 53 := by omega
        by_cases c4 : natOf (l.drop 1) = 0
        · have := q4 c3 c4
          rw [if_neg (by rintro (x | x); exact c2 x; exact x (hz.2 c4)), if_neg (by omega), if_pos this]
        · have := q3 c3 c4
          rw [if_pos (.inr fun x => c4 (hz.1 x)), if_neg (by omega), if_neg (by omega)]

theorem away_out {d near : D} (dd : d.dig.all dg = true) (s m : Int) (hs : s < d.scale) : awayE d near s m = outE d near s m := by
  unfold awayE outE
  rw [half_val dd s hs]
  by_cases c1 : m = 1
  · subst c1; simp
  · by_cases c2 : m = 2
    · subst c2
      by_cases c : halfN d s = 0
      · simp [c]
      · simp [c]
    · rw [if_neg c1, if_neg c2, if_neg c2, if_neg c1]

/-- Addition, at a scale that is not less than either's. -/
theorem alV_at {a b : D} (sa : Small a) (sb : Small b) (K : Nat) (ha : a.scale ≤ K) (hb : b.scale ≤ K) : alV a b * 10 ^ (K - (alS a b).toNat) = natOf a.dig * 10 ^ (K - a.scale.toNat) ∧ (alS a b).toNat ≤ K ∧ 0 ≤ alS a b := by
  have h1 := sa.s0
  have h2 := sb.s0
  have hS : alS a b = max a.scale b.scale := rfl
  refine ⟨?_, by omega, by omega⟩
  rw [alV, Nat.mul_assoc, ← Nat.pow_add]
  congr 2
  omega
theorem norm_at (neg : Bool) (n : Nat) (S : Int) (K : Nat) (h0 : 0 ≤ S) (hK : S.toNat ≤ K) : normE neg n S = resE (canon neg (n * 10 ^ (K - S.toNat)) K) := by
  rw [normE, show (-S).toNat = 0 by omega, Nat.pow_zero, Nat.mul_one]
  have := canon_mul neg (K - S.toNat) n S.toNat
  rw [show S.toNat + (K - S.toNat) = K by omega] at this
  rw [this]
theorem add_at {a b : D} (ca : checkE a = 0) (cb : checkE b = 0) (K : Nat) (ha : a.scale ≤ K) (hb : b.scale ≤ K) :
    addE a b = if a.neg = b.neg then resE (canon a.neg (natOf a.dig * 10 ^ (K - a.scale.toNat) + natOf b.dig * 10 ^ (K - b.scale.toNat)) K)
      else if natOf b.dig * 10 ^ (K - b.scale.toNat) ≤ natOf a.dig * 10 ^ (K - a.scale.toNat) then resE (canon a.neg (natOf a.dig * 10 ^ (K - a.scale.toNat) - natOf b.dig * 10 ^ (K - b.scale.toNat)) K)
      else resE (canon b.neg (natOf b.dig * 10 ^ (K - b.scale.toNat) - natOf a.dig * 10 ^ (K - a.scale.toNat)) K) := by
  obtain ⟨sa, _, _, _⟩ := Small_of_check ca
  obtain ⟨sb, _, _, _⟩ := Small_of_check cb
  obtain ⟨e1, e2, e3⟩ := alV_at sa sb K ha hb
  obtain ⟨f1, _, _⟩ := alV_at sb sa K hb ha
  rw [alS_comm b a] at f1
  have hp : 0 < 10 ^ (K - (alS a b).toNat) := Nat.pow_pos (by omega)
  rw [addE, if_pos ⟨ca, cb⟩, norm_at _ _ _ K e3 e2, norm_at _ _ _ K e3 e2, norm_at _ _ _ K e3 e2, Nat.add_mul, Nat.sub_mul, Nat.sub_mul, e1, f1]
  by_cases c : alV b a ≤ alV a b
  · have : natOf b.dig * 10 ^ (K - b.scale.toNat) ≤ natOf a.dig * 10 ^ (K - a.scale.toNat) := by rw [← e1, ← f1]; exact Nat.mul_le_mul_right _ c
    rw [if_pos c, if_pos this]
  · have : ¬ natOf b.dig * 10 ^ (K - b.scale.toNat) ≤ natOf a.dig * 10 ^ (K - a.scale.toNat) := by
      rw [← e1, ← f1]
      exact fun h => c (Nat.le_of_mul_le_mul_right h hp)
    rw [if_neg c, if_neg this]
end Go.Proofs.YtnaioficflbioaaDoor
