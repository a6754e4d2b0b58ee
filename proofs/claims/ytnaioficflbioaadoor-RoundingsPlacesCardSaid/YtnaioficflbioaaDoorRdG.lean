/-
  Round, as numbers; the examples.
  Conditions: none.
-/
import Derived.Test.YtnaioficflbioaaDoorRdF
set_option linter.unusedSimpArgs false
set_option linter.unnecessarySimpa false
set_option linter.unusedVariables false
namespace Go.Proofs.YtnaioficflbioaaDoor
open Go.AM
open Go.Proofs
open Go.Dec
open Go.Lib (decDigits)
set_option maxRecDepth 100000

theorem near_long {d : D} (h : checkE d = 0) (s : Int) : long (nearE d s) ≤ 62 ∧ checkE (nearE d s) = 0 := by
  have hc := cutE_val h s
  obtain ⟨hv, hl⟩ := val_canon h
  obtain ⟨sc, _⟩ := cutE_small h s
  by_cases hb : lostB d s = true
  · rw [if_pos hb] at hc
    rw [hc] at sc
    have hlong : long (nearE d s) ≤ 62 := by
      have h1 := sc.l
      have h2 := sc.s1
      unfold long
      simp only at h1 h2
      omega
    refine ⟨hlong, ?_⟩
    unfold nearE at hlong ⊢
    rw [if_pos hb] at hlong ⊢
    exact check_canon _ _ _ hlong
  · unfold nearE
    rw [if_neg hb]
    exact ⟨hl, h⟩

theorem steps_add (neg : Bool) (w : Nat) (s : Int) (hA : checkE (stepsD neg w s) = 0) (hB : checkE (stepsD neg 1 s) = 0) : addE (stepsD neg w s) (stepsD neg 1 s) = resE (stepsD neg (w + 1) s) := by
  have a0 := canon_scale neg (w * 10 ^ (-s).toNat) s.toNat
  have b0 := canon_scale neg (1 * 10 ^ (-s).toNat) s.toNat
  obtain ⟨a1, a2⟩ := canon_at neg (w * 10 ^ (-s).toNat) s.toNat
  obtain ⟨b1, b2⟩ := canon_at neg (1 * 10 ^ (-s).toNat) s.toNat
  obtain ⟨_, _, a3⟩ := natOf_canon neg (w * 10 ^ (-s).toNat) s.toNat
  obtain ⟨_, _, b3⟩ := natOf_canon neg (1 * 10 ^ (-s).toNat) s.toNat
  have hp : 0 < 10 ^ (-s).toNat := Nat.pow_pos (by omega)
  rw [if_neg (by omega)] at b3
  have e := add_at hA hB s.toNat (by unfold stepsD; omega) (by unfold stepsD; omega)
  rw [e]
  unfold stepsD at *
  rw [a1, b1, b3]
  by_cases hw : w = 0
  · subst hw
    simp only [Nat.zero_mul, Nat.zero_add, Nat.one_mul, if_true] at a3 ⊢
    rw [a3]
    cases neg with
    | false => rfl
    | true =>
      rw [if_neg (by decide), if_neg (by omega)]
      rfl
  · rw [if_neg (by
      have : 0 < w * 10 ^ (-s).toNat := Nat.mul_pos (by omega) hp
      omega)] at a3
    rw [a3, if_pos rfl, ← Nat.add_mul]

theorem long_steps {neg : Bool} {s : Int} (s1 : s ≤ 62) (h : 62 < long (stepsD neg 1 s)) (w : Nat) : 62 < long (stepsD neg (w + 1) s) := by
  unfold stepsD at *
  rcases Int.le_total 0 s with c | c
  · exfalso
    have := long_canon neg (1 * 10 ^ (-s).toNat) s.toNat (by rw [show (-s).toNat = 0 by omega]; decide) (by omega)
    omega
  · have hp : 0 < 10 ^ (-s).toNat := Nat.pow_pos (by omega)
    rw [show s.toNat = 0 by omega] at *
    rw [canon_big _ _ (by omega)] at h
    have hm : 10 ^ (-s).toNat ≤ (w + 1) * 10 ^ (-s).toNat := Nat.le_mul_of_pos_left _ (by omega)
    rw [canon_big _ _ (by omega)]
    unfold long at *
    simp only at *
    have h1 : ¬ (decDigits (1 * 10 ^ (-s).toNat)).length ≤ 62 := by omega
    rw [decDigits_lt (by omega)] at h1
    have h2 : ¬ (decDigits ((w + 1) * 10 ^ (-s).toNat)).length ≤ 62 := by
      rw [decDigits_lt (by omega)]
      omega
    omega

theorem roundE_val {d : D} (h : checkE d = 0) (s m : Int) (s0 : -62 ≤ s) (s1 : s ≤ 62) (m7 : m ≤ 7) :
    roundE d s m = if lostB d s = false then (d, 0) else if m = 7 then (noD, 14) else resE (chosenE d s m) := by
  obtain ⟨sd, dd, _, _⟩ := Small_of_check h
  have hk : chkR d 1 s = 0 := by rw [chkR, if_pos ⟨h, by omega, by omega, s0, s1⟩]
  have hc := cutE_val h s
  unfold roundE
  rw [if_neg (by rintro (e | e); exact e hk; omega)]
  cases hb : lostB d s with
  | false =>
    rw [hb] at hc
    have hc' : cutE d s = (d, true, 0) := hc.trans rfl
    rw [hc']
    rfl
  | true =>
    have hs : s < d.scale := by
      unfold lostB at hb
      simp only [Bool.and_eq_true, decide_eq_true_eq] at hb
      exact hb.1
    rw [hb] at hc
    have hc' : cutE d s = (nearE d s, false, 0) := hc.trans rfl
    rw [hc', if_neg (by simp), if_neg (show ¬ true = false by decide)]
    by_cases c7 : m = 7
    · rw [if_pos c7, if_pos c7]
    · rw [if_neg c7, if_neg c7]
      simp only
      obtain ⟨nl, nc⟩ := near_long h s
      rw [away_out dd s m hs]
      have hch : chosenE d s m = if outE d (nearE d s) s m = true then farE d s else nearE d s := by
        unfold chosenE
        rw [if_neg (by rw [hb]; decide)]
      rw [hch]
      cases ho : outE d (nearE d s) s m with
      | false =>
        rw [if_pos rfl, if_neg (by decide), resE_ok (by omega)]
      | true =>
        rw [if_neg (by decide), if_pos rfl]
        have hnew : newE d.neg [49] s = resE (stepsD d.neg 1 s) := by
          rw [newE, if_pos ⟨by decide, by decide, by omega, by omega⟩, normE, show natOf [49] = 1 from rfl]
          rfl
        have hfar : farE d s = stepsD d.neg (wholeN d s + 1) s := by rw [farE, if_pos hb]
        have hnear : nearE d s = stepsD d.neg (wholeN d s) s := by rw [nearE, if_pos hb]
        rw [hnew, hfar]
        by_cases hl : 62 < long (stepsD d.neg 1 s)
        · rw [resE_long hl, resE_long (long_steps s1 hl _), if_pos (by decide)]
        · rw [resE_ok hl, if_neg (by simp)]
          simp only
          rw [hnear] at nc ⊢
          exact steps_add _ _ _ nc (check_canon _ _ _ (by unfold stepsD at hl; omega))

/-! ### The examples -/
def exD (i : Nat) : D := [canon false 25 1, canon true 25 1, canon false 351 2, canon false 4 2, canon false 1250 0].getD i zeroD
def exS (i : Nat) : Int := [0, 0, 0, 1, -2].getD i 0
def exU (i : Nat) : Int := [0, 0, 0, 1, 0].getD i 0
def exW (i j : Nat) : Int := ([[2, 3, 2, 2, 3, 3, 2], [-2, -3, -2, -2, -3, -2, -3], [3, 4, 4, 4, 4, 4, 3], [0, 0, 0, 0, 1, 1, 0], [1200, 1300, 1200, 1200, 1300, 1300, 1200]].getD i []).getD j 0
theorem ex_check : ∀ i, i < 5 → checkE (exD i) = 0 := by
  intro i hi
  match i, hi with
  | 0, _ => exact (show checkE (canon false 25 1) = 0 from check_canon _ _ _ (long_canon _ _ _ (by decide +kernel) (by decide)))
  | 1, _ => exact (show checkE (canon true 25 1) = 0 from check_canon _ _ _ (long_canon _ _ _ (by decide +kernel) (by decide)))
  | 2, _ => exact (show checkE (canon false 351 2) = 0 from check_canon _ _ _ (long_canon _ _ _ (by decide +kernel) (by decide)))
  | 3, _ => exact (show checkE (canon false 4 2) = 0 from check_canon _ _ _ (long_canon _ _ _ (by decide +kernel) (by decide)))
  | 4, _ => exact (show checkE (canon false 1250 0) = 0 from check_canon _ _ _ (long_canon _ _ _ (by decide +kernel) (by decide)))
theorem ex_round : ∀ i, i < 5 → ∀ j, j < 7 → roundE (exD i) (exS i) (j : Nat) = (canon (decide (exW i j < 0)) (exW i j).natAbs (exU i).toNat, 0) := by
  intro i hi j hj
  have hs : -62 ≤ exS i ∧ exS i ≤ 62 := by
    match i, hi with
    | 0, _ => decide
    | 1, _ => decide
    | 2, _ => decide
    | 3, _ => decide
    | 4, _ => decide
  rw [roundE_val (ex_check i hi) _ _ hs.1 hs.2 (by omega)]
  match i, hi with
  | 0, _ =>
    match j, hj with
    | 0, _ => exact (show (_ : D × Int) = _ by kernel_rfl)
    | 1, _ => exact (show (_ : D × Int) = _ by kernel_rfl)
    | 2, _ => exact (show (_ : D × Int) = _ by kernel_rfl)
    | 3, _ => exact (show (_ : D × Int) = _ by kernel_rfl)
    | 4, _ => exact (show (_ : D × Int) = _ by kernel_rfl)
    | 5, _ => exact (show (_ : D × Int) = _ by kernel_rfl)
    | 6, _ => exact (show (_ : D × Int) = _ by kernel_rfl)
  | 1, _ =>
    match j, hj with
    | 0, _ => exact (show (_ : D × Int) = _ by kernel_rfl)
    | 1, _ => exact (show (_ : D × Int) = _ by kernel_rfl)
    | 2, _ => exact (show (_ : D × Int) = _ by kernel_rfl)
    | 3, _ => exact (show (_ : D × Int) = _ by kernel_rfl)
    | 4, _ => exact (show (_ : D × Int) = _ by kernel_rfl)
    | 5, _ => exact (show (_ : D × Int) = _ by kernel_rfl)
    | 6, _ => exact (show (_ : D × Int) = _ by kernel_rfl)
  | 2, _ =>
    match j, hj with
    | 0, _ => exact (show (_ : D × Int) = _ by kernel_rfl)
    | 1, _ => exact (show (_ : D × Int) = _ by kernel_rfl)
    | 2, _ => exact (show (_ : D × Int) = _ by kernel_rfl)
    | 3, _ => exact (show (_ : D × Int) = _ by kernel_rfl)
    | 4, _ => exact (show (_ : D × Int) = _ by kernel_rfl)
    | 5, _ => exact (show (_ : D × Int) = _ by kernel_rfl)
    | 6, _ => exact (show (_ : D × Int) = _ by kernel_rfl)
  | 3, _ =>
    match j, hj with
    | 0, _ => exact (show (_ : D × Int) = _ by kernel_rfl)
    | 1, _ => exact (show (_ : D × Int) = _ by kernel_rfl)
    | 2, _ => exact (show (_ : D × Int) = _ by kernel_rfl)
    | 3, _ => exact (show (_ : D × Int) = _ by kernel_rfl)
    | 4, _ => exact (show (_ : D × Int) = _ by kernel_rfl)
    | 5, _ => exact (show (_ : D × Int) = _ by kernel_rfl)
    | 6, _ => exact (show (_ : D × Int) = _ by kernel_rfl)
  | 4, _ =>
    match j, hj with
    | 0, _ => exact (show (_ : D × Int) = _ by kernel_rfl)
    | 1, _ => exact (show (_ : D × Int) = _ by kernel_rfl)
    | 2, _ => exact (show (_ : D × Int) = _ by kernel_rfl)
    | 3, _ => exact (show (_ : D × Int) = _ by kernel_rfl)
    | 4, _ => exact (show (_ : D × Int) = _ by kernel_rfl)
    | 5, _ => exact (show (_ : D × Int) = _ by kernel_rfl)
    | 6, _ => exact (show (_ : D × Int) = _ by kernel_rfl)

def exM : D := canon true 125 1
theorem ex_prohibited : roundE (exD 0) 0 7 = (noD, 14) := by
  rw [roundE_val (ex_check 0 (by omega)) _ _ (by omega) (by omega) (by omega)]
  exact (show (_ : D × Int) = _ by kernel_rfl)
theorem ex_fits1 : fitsE exM 3 1 = (true, 0) := by kernel_rfl
theorem ex_fits2 : fitsE exM 2 1 = (false, 0) := by kernel_rfl
theorem ex_low : lowE exM 2 1 = (canon true 25 1, 0) := by kernel_rfl
theorem ex_dig1 : digitsE exM 4 1 = ([48, 49, 50, 53], 0) := by kernel_rfl
theorem ex_dig2 : digitsE (canon false 1200 0) 3 (-2) = ([48, 49, 50], 0) := by kernel_rfl
theorem ex_dig3 : digitsE (canon false 5 3) 1 3 = ([53], 0) := by kernel_rfl
end Go.Proofs.YtnaioficflbioaaDoor
