/-
  What a rounded number differs by: less than a step of the grid, half a step at most in the modes 1 to 3.
  Conditions: none.
-/
import Derived.Test.YtnaioficflbioaaDoorRdJ
set_option linter.unnecessarySimpa false
set_option linter.unusedSimpArgs false
set_option linter.unusedVariables false
namespace Go.Proofs.YtnaioficflbioaaDoor
open Go.AM
open Go.Proofs
open Go.Dec
open Go.Lib (decDigits)
set_option maxRecDepth 100000

theorem less_nat : ∀ (x y : List UInt8), x.all dg = true → y.all dg = true → x.length = y.length →
    (Op.bytesLess x y = true ↔ natOf x < natOf y) ∧ (x = y ↔ natOf x = natOf y)
  | [], [], _, _, _ => by simp [Op.bytesLess]
  | [], _ :: _, _, _, h => by simp at h
  | _ :: _, [], _, _, h => by simp at h
  | a :: x, b :: y, hx, hy, hl => by
    simp only [List.all_cons, Bool.and_eq_true] at hx hy
    have hl' : x.length = y.length := by simpa using hl
    obtain ⟨i1, i2⟩ := less_nat x y hx.2 hy.2 hl'
    have hx' := natOf_lt x hx.2
    have hy' := natOf_lt y hy.2
    have da := (dg_iff a).1 hx.1
    have db := (dg_iff b).1 hy.1
    rw [natOf_cons, natOf_cons, hl']
    rw [hl'] at hx'
    have va : dv a = a.toNat - 48 := rfl
    have vb : dv b = b.toNat - 48 := rfl
    have hab : a = b ↔ dv a = dv b := ⟨fun e => by rw [e], fun e => UInt8.toNat_inj.1 (by omega)⟩
    rcases Nat.lt_trichotomy (dv a) (dv b) with c | c | c
    · have hlt : a < b := UInt8.lt_iff_toNat_lt.2 (by omega)
      have : (dv a + 1) * 10 ^ y.length ≤ dv b * 10 ^ y.length := Nat.mul_le_mul_right _ c
      rw [Nat.add_mul, Nat.one_mul] at this
      refine ⟨⟨fun _ => by omega, fun _ => by simp [Op.bytesLess, hlt]⟩, ⟨fun e => ?_, fun e => by omega⟩⟩
      have := hab.1 (by injection e)
      omega
    · have e := hab.2 c
      subst e
      rw [show Op.bytesLess (a :: x) (a :: y) = Op.bytesLess x y by simp [Op.bytesLess]]
      refine ⟨i1.trans ⟨fun _ => by omega, fun _ => by omega⟩, ⟨fun e => by rw [List.cons.injEq] at e; rw [e.2], fun e => ?_⟩⟩
      rw [i2.2 (by omega)]
    · have hge : ¬ a < b := fun e => by have := UInt8.lt_iff_toNat_lt.1 e; omega
      have hne : ¬ a = b := fun e => by have := hab.1 e; omega
      have : (dv b + 1) * 10 ^ y.length ≤ dv a * 10 ^ y.length := Nat.mul_le_mul_right _ c
      rw [Nat.add_mul, Nat.one_mul] at this
      refine ⟨⟨fun e => ?_, fun _ => by omega⟩, ⟨fun e => ?_, fun e => by omega⟩⟩
      · simp [Op.bytesLess, hge, hne] at e
      · injection e with e1 _; exact absurd e1 hne
theorem cmpS_nat {x y : List UInt8} (hx : x.all dg = true) (hy : y.all dg = true) (hl : x.length = y.length) :
    cmpS x y = if natOf x < natOf y then -1 else if natOf x = natOf y then 0 else 1 := by
  obtain ⟨h1, h2⟩ := less_nat x y hx hy hl
  unfold cmpS
  by_cases c : natOf x < natOf y
  · rw [if_pos c, if_pos (h1.2 c)]
  · have hb : Op.bytesLess x y = false := by
      cases hb : Op.bytesLess x y with
      | false => rfl
      | true => exact absurd (h1.1 hb) c
    rw [if_neg c, if_neg (by rw [hb]; decide), hb, Bool.false_or]
    by_cases e : natOf x = natOf y
    · rw [if_pos e, if_pos (decide_eq_true (h2.2 e))]
    · rw [if_neg e, if_neg (by rw [decide_eq_true_eq]; exact fun e' => e (h2.1 e'))]
theorem compare_at {a b : D} (ca : checkE a = 0) (cb : checkE b = 0) (na : a.neg = false) (nb : b.neg = false) (K : Nat) (ha : a.scale ≤ K) (hb : b.scale ≤ K) :
    compareE a b = (if natOf a.dig * 10 ^ (K - a.scale.toNat) < natOf b.dig * 10 ^ (K - b.scale.toNat) then -1 else if natOf a.dig * 10 ^ (K - a.scale.toNat) = natOf b.dig * 10 ^ (K - b.scale.toNat) then 0 else 1, 0) := by
  obtain ⟨sa, da, _, _⟩ := Small_of_check ca
  obtain ⟨sb, db, _, _⟩ := Small_of_check cb
  obtain ⟨e1, e2, e3⟩ := alV_at sa sb K ha hb
  obtain ⟨f1, _, _⟩ := alV_at sb sa K hb ha
  rw [alS_comm b a] at f1
  have hp : 0 < 10 ^ (K - (alS a b).toNat) := Nat.pow_pos (by omega)
  have la : ((extD a (alS a b)).length : Int) ≤ alN a b := by unfold alN; omega
  have lb : ((extD b (alS a b)).length : Int) ≤ alN a b := by unfold alN; omega
  rw [compareE, if_pos ⟨ca, cb⟩, if_pos (by rw [na, nb]), if_neg (by rw [na]; decide),
    cmpS_nat (pad_all (ext_all da _) _) (pad_all (ext_all db _) _) (by rw [pad_length la, pad_length lb]), natOf_pad, natOf_pad, natOf_ext, natOf_ext]
  have va : natOf a.dig * 10 ^ (alS a b - a.scale).toNat = alV a b := rfl
  have vb : natOf b.dig * 10 ^ (alS a b - b.scale).toNat = alV b a := by unfold alV; rw [alS_comm b a]
  rw [va, vb, ← e1, ← f1]
  have q1 : alV a b * 10 ^ (K - (alS a b).toNat) < alV b a * 10 ^ (K - (alS a b).toNat) ↔ alV a b < alV b a := Nat.mul_lt_mul_right hp
  have q2 : alV a b * 10 ^ (K - (alS a b).toNat) = alV b a * 10 ^ (K - (alS a b).toNat) ↔ alV a b = alV b a := Nat.mul_left_inj (by omega)
  simp only [q1, q2]

/-- A step of the grid at scale K. -/
def stepN (s : Int) (K : Nat) : Nat := 10 ^ (-s).toNat * 10 ^ (K - s.toNat)
theorem canon_neg (neg : Bool) (n k : Nat) : (⟨false, (canon neg n k).dig, (canon neg n k).scale⟩ : D) = canon false n k := by
  unfold canon
  split <;> rfl
theorem canon_val (neg : Bool) (n k : Nat) : natOf (canon neg n k).dig * 10 ^ (k - (canon neg n k).scale.toNat) = n := (canon_at neg n k).1
theorem canon_le (neg : Bool) (n k : Nat) : (canon neg n k).scale ≤ k := by
  have := (canon_at neg n k).2
  have := canon_scale neg n k
  omega
theorem check_neg {d : D} (h : checkE d = 0) : d.dig = [48] ∨ True := .inr trivial
/-- The value of m steps at a scale. -/
theorem steps_val (neg : Bool) (w : Nat) (s : Int) (K : Nat) (hK : s ≤ K) : natOf (stepsD neg w s).dig * 10 ^ (K - (stepsD neg w s).scale.toNat) = w * stepN s K ∧ (stepsD neg w s).scale ≤ K := by
  have h1 := canon_mul neg (K - s.toNat) (w * 10 ^ (-s).toNat) s.toNat
  rw [show s.toNat + (K - s.toNat) = K by omega] at h1
  have e : stepsD neg w s = canon neg (w * 10 ^ (-s).toNat * 10 ^ (K - s.toNat)) K := h1.symm
  rw [e]
  refine ⟨?_, canon_le _ _ _⟩
  rw [canon_val, stepN, Nat.mul_assoc]

theorem sub_steps {d : D} (hd : checkE d = 0) (s : Int) (hs : s < d.scale) (w T : Nat) (hc : checkE (stepsD d.neg w s) = 0)
    (hT : natOf d.dig = w * stepN s d.scale.toNat + T ∨ natOf d.dig + T = w * stepN s d.scale.toNat) : ∃ sg, subE d (stepsD d.neg w s) = resE (canon sg T d.scale.toNat) := by
  obtain ⟨sd, _, _, _⟩ := Small_of_check hd
  have h0 := sd.s0
  obtain ⟨v1, v2⟩ := steps_val d.neg w s d.scale.toNat (by omega)
  have e1 : (otherD (stepsD d.neg w s)).scale = (stepsD d.neg w s).scale := rfl
  have e2 : (otherD (stepsD d.neg w s)).dig = (stepsD d.neg w s).dig := rfl
  have ho : otherD (stepsD d.neg w s) = stepsD (!d.neg) w s := other_canon _ _ _
  rw [subE, if_pos ⟨hd, hc⟩, add_at hd (check_other hc) d.scale.toNat (by omega) (by rw [e1]; omega), e1, e2, v1, Nat.sub_self, Nat.pow_zero, Nat.mul_one]
  by_cases hn : d.neg = (otherD (stepsD d.neg w s)).neg
  · rw [if_pos hn]
    refine ⟨d.neg, congrArg resE ?_⟩
    -- the same sign: the steps are none
    have hz : w * 10 ^ (-s).toNat = 0 := by
      rw [ho] at hn
      obtain ⟨_, _, h3⟩ := natOf_canon (!d.neg) (w * 10 ^ (-s).toNat) s.toNat
      unfold stepsD at hn
      rw [h3] at hn
      split at hn
      · assumption
      · revert hn; cases d.neg <;> simp
    have hz' : w * stepN s d.scale.toNat = 0 := by rw [stepN, ← Nat.mul_assoc, hz, Nat.zero_mul]
    rw [hz'] at hT ⊢
    rw [Nat.add_zero]
    rcases hT with e | e
    · rw [show natOf d.dig = T by omega]
    · rw [show natOf d.dig = T by omega]
  · rw [if_neg hn]
    split
    · exact ⟨_, by rw [show natOf d.dig - w * stepN s d.scale.toNat = T by omega]⟩
    · exact ⟨_, by rw [show w * stepN s d.scale.toNat - natOf d.dig = T by omega]⟩

theorem near_law {d : D} (hv : checkE d = 0) (s m : Int) (s0 : -62 ≤ s) (s1 : s ≤ 62) (m0 : 0 ≤ m) (m6 : m ≤ 6) (hr : (roundE d s m).2 = 0) :
    checkE (roundE d s m).1 = 0 ∧ ∃ (sg : Bool) (T K : Nat), s ≤ K ∧ subE d (roundE d s m).1 = resE (canon sg T K) ∧ T < stepN s K ∧ (1 ≤ m → m ≤ 3 → 2 * T ≤ stepN s K) := by
  have rv := roundE_val hv s m s0 s1 (by omega)
  obtain ⟨sd, dd, _, _⟩ := Small_of_check hv
  have hs0 := sd.s0
  have hpos : ∀ K, 0 < stepN s K := fun K => Nat.mul_pos (Nat.pow_pos (by omega)) (Nat.pow_pos (by omega))
  cases hb : lostB d s with
  | false =>
    rw [hb, if_pos rfl] at rv
    rw [rv]
    refine ⟨hv, ?_⟩
    have hsc : (otherD d).scale = d.scale := rfl
    have hdg : (otherD d).dig = d.dig := rfl
    refine ⟨d.neg, 0, max d.scale.toNat s.toNat, by omega, ?_, hpos _, fun _ _ => by have := hpos (max d.scale.toNat s.toNat); omega⟩
    show subE d d = _
    rw [subE, if_pos ⟨hv, hv⟩, add_at hv (check_other hv) (max d.scale.toNat s.toNat) (by omega) (by rw [hsc]; omega), hsc, hdg]
    by_cases hn : d.neg = (otherD d).neg
    · rw [if_pos hn]
      have hz : d.dig = [48] := by
        refine Classical.byContradiction fun h => ?_
        have e : (otherD d).neg = !d.neg := by simp [otherD, h]
        rw [e] at hn
        revert hn
        cases d.neg <;> simp
      rw [hz, show natOf [48] = 0 by decide, Nat.zero_mul]
    · rw [if_neg hn, if_pos (Nat.le_refl _), Nat.sub_self]
  | true =>
    have hlt : s < d.scale := by
      unfold lostB at hb
      simp only [Bool.and_eq_true, decide_eq_true_eq] at hb
      exact hb.1
    have hln : lostN d s ≠ 0 := by
      unfold lostB at hb
      simp only [Bool.and_eq_true, Bool.not_eq_true', decide_eq_false_iff_not] at hb
      exact hb.2
    rw [hb, if_neg (by decide), if_neg (by omega)] at rv
    have hl : ¬62 < long (chosenE d s m) := by
      intro h
      rw [resE_long h] at rv
      rw [rv] at hr
      cases hr
    rw [resE_ok hl] at rv
    rw [rv]
    have hK : stepN s d.scale.toNat = 10 ^ (d.scale - s).toNat := by
      rw [stepN, ← Nat.pow_add]
      congr 1
      omega
    have hq : 0 < 10 ^ (d.scale - s).toNat := Nat.pow_pos (by omega)
    have hdiv : natOf d.dig = wholeN d s * 10 ^ (d.scale - s).toNat + lostN d s := by
      unfold wholeN lostN
      rw [Nat.mul_comm]
      exact (Nat.div_add_mod _ _).symm
    have hlq : lostN d s < 10 ^ (d.scale - s).toNat := Nat.mod_lt _ hq
    have e1 : nearE d s = stepsD d.neg (wholeN d s) s := by rw [nearE, if_pos hb]
    have e2 : farE d s = stepsD d.neg (wholeN d s + 1) s := by rw [farE, if_pos hb]
    have hc : checkE (chosenE d s m) = 0 := by
      obtain ⟨w, e⟩ := chosen_form s m hb
      rw [e] at hl ⊢
      exact check_canon _ _ _ (by unfold stepsD at hl; omega)
    refine ⟨hc, ?_⟩
    revert hc
    unfold chosenE
    rw [if_neg (by rw [hb]; decide)]
    cases ho : outE d (nearE d s) s m with
    | true =>
      rw [if_pos rfl, e2]
      intro hc
      obtain ⟨sg, he⟩ := sub_steps hv s hlt (wholeN d s + 1) (10 ^ (d.scale - s).toNat - lostN d s) hc (.inr (by rw [hK, Nat.add_mul, Nat.one_mul]; omega))
      refine ⟨sg, _, d.scale.toNat, by omega, he, by rw [hK]; omega, fun m1 m3 => ?_⟩
      rw [hK]
      have h2 : 0 ≤ halfN d s := by
        unfold outE at ho
        by_cases c1 : m = 1
        · rw [if_pos c1] at ho; exact of_decide_eq_true ho
        · rw [if_neg c1] at ho
          by_cases c2 : m = 2
          · rw [if_pos c2] at ho
            simp only [Bool.or_eq_true, Bool.and_eq_true, decide_eq_true_eq] at ho
            omega
          · rw [if_neg c2] at ho
            rw [if_pos (by omega)] at ho
            have := of_decide_eq_true ho
            omega
      unfold halfN at h2
      split at h2
      · omega
      · omega
    | false =>
      rw [if_neg (by decide), e1]
      intro hc
      obtain ⟨sg, he⟩ := sub_steps hv s hlt (wholeN d s) (lostN d s) hc (.inl (by rw [hK]; exact hdiv))
      refine ⟨sg, _, d.scale.toNat, by omega, he, by rw [hK]; omega, fun m1 m3 => ?_⟩
      rw [hK]
      have h2 : halfN d s ≤ 0 := by
        unfold outE at ho
        by_cases c1 : m = 1
        · rw [if_pos c1] at ho; have := of_decide_eq_false ho; omega
        · rw [if_neg c1] at ho
          by_cases c2 : m = 2
          · rw [if_pos c2] at ho
            simp only [Bool.or_eq_false_iff, decide_eq_false_iff_not] at ho
            omega
          · rw [if_neg c2] at ho
            rw [if_pos (by omega)] at ho
            have := of_decide_eq_false ho
            omega
      unfold halfN at h2
      split at h2
      · omega
      · split at h2
        · omega
        · omega
end Go.Proofs.YtnaioficflbioaaDoor
