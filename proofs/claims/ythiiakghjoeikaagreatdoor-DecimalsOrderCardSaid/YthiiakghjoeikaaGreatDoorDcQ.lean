/-
  Decimals as whole numbers: of 62 places.
  Conditions: none.
-/
import Derived.Test.YthiiakghjoeikaaGreatDoorDcP
set_option linter.unusedSimpArgs false
set_option linter.unnecessarySimpa false
set_option linter.unusedVariables false
namespace Go.Proofs.YthiiakghjoeikaaGreatDoor
open Go.AM
open Go.Proofs
open Go.Dec
open Go.Lib (decDigits)
set_option maxRecDepth 100000

theorem less_nat : ∀ (x y : List UInt8), x.all dg = true → y.all dg = true → x.length = y.length →
    (Op.bytesLess x y = true ↔ natOf x < natOf y) ∧ (x = y ↔ natOf x = natOf y)
  | [], [], _, _, _ => by simp [Op.bytesLess]
  | [], _ :: _, _, _, h => by simp at h
  | _ :: _, [], _, _, h => by simp at h
  | a :: x, b :: y, hx, hy, hl => by
    simp only [List.all_cons, Bool.and_eq_true] at hx hy
    have hl' : x.length = y.length := by simpa using hl
    obtain ⟨i1, i2⟩ := less_nat x y hx.2 hy.2 hl'
    have hx' := natOf_lt x hx.2
    have hy' := natOf_lt y hy.2
    have da := (dg_iff a).1 hx.1
    have db := (dg_iff b).1 hy.1
    rw [natOf_cons, natOf_cons, hl']
    rw [hl'] at hx'
    have va : dv a = a.toNat - 48 := rfl
    have vb : dv b = b.toNat - 48 := rfl
    have hab : a = b ↔ dv a = dv b := ⟨fun e => by rw [e], fun e => UInt8.toNat_inj.1 (by omega)⟩
    rcases Nat.lt_trichotomy (dv a) (dv b) with c | c | c
    · have hlt : a < b := UInt8.lt_iff_toNat_lt.2 (by omega)
      have : (dv a + 1) * 10 ^ y.length ≤ dv b * 10 ^ y.length := Nat.mul_le_mul_right _ c
      rw [Nat.add_mul, Nat.one_mul] at this
      refine ⟨⟨fun _ => by omega, fun _ => by simp [Op.bytesLess, hlt]⟩, ⟨fun e => ?_, fun e => by omega⟩⟩
      have := hab.1 (by injection e)
      omega
    · have e := hab.2 c
      subst e
      rw [show Op.bytesLess (a :: x) (a :: y) = Op.bytesLess x y by simp [Op.bytesLess]]
      refine ⟨i1.trans ⟨fun _ => by omega, fun _ => by omega⟩, ⟨fun e => by rw [List.cons.injEq] at e; rw [e.2], fun e => ?_⟩⟩
      rw [i2.2 (by omega)]
    · have hge : ¬ a < b := fun e => by have := UInt8.lt_iff_toNat_lt.1 e; omega
      have hne : ¬ a = b := fun e => by have := hab.1 e; omega
      have : (dv b + 1) * 10 ^ y.length ≤ dv a * 10 ^ y.length := Nat.mul_le_mul_right _ c
      rw [Nat.add_mul, Nat.one_mul] at this
      refine ⟨⟨fun e => ?_, fun _ => by omega⟩, ⟨fun e => ?_, fun e => by omega⟩⟩
      · simp [Op.bytesLess, hge, hne] at e
      · injection e with e1 _; exact absurd e1 hne
theorem cmpS_nat {x y : List UInt8} (hx : x.all dg = true) (hy : y.all dg = true) (hl : x.length = y.length) :
    cmpS x y = if natOf x < natOf y then -1 else if natOf x = natOf y then 0 else 1 := by
  obtain ⟨h1, h2⟩ := less_nat x y hx hy hl
  unfold cmpS
  by_cases c : natOf x < natOf y
  · rw [if_pos c, if_pos (h1.2 c)]
  · have hb : Op.bytesLess x y = false := by
      cases hb : Op.bytesLess x y with
      | false => rfl
      | true => exact absurd (h1.1 hb) c
    rw [if_neg c, if_neg (by rw [hb]; decide), hb, Bool.false_or]
    by_cases e : natOf x = natOf y
    · rw [if_pos e, if_pos (decide_eq_true (h2.2 e))]
    · rw [if_neg e, if_neg (by rw [decide_eq_true_eq]; exact fun e' => e (h2.1 e'))]

/-- A decimal's value, as a whole number of steps of the 62nd place. -/
def magN (d : D) : Nat := natOf d.dig * 10 ^ (62 - d.scale.toNat)
def vI (d : D) : Int := if d.neg = true then -(magN d : Int) else magN d
/-- The decimal of such a number. -/
def ofV (v : Int) : D := canon (decide (v < 0)) v.natAbs 62

theorem canon_zero (neg : Bool) (k : Nat) : canon neg 0 k = zeroD := rfl
theorem canon_as (neg : Bool) (n : Nat) : canon neg n 62 = ofV (if neg = true then -(n : Int) else n) := by
  unfold ofV
  by_cases hn : n = 0
  · subst hn; cases neg <;> rfl
  · cases neg
    · rw [if_neg (by decide), decide_eq_false (by omega), Int.natAbs_natCast]
    · rw [if_pos rfl, decide_eq_true (by omega), Int.natAbs_neg, Int.natAbs_natCast]
theorem val_at {d : D} (h : checkE d = 0) : d = canon d.neg (magN d) 62 := by
  obtain ⟨sd, _, _, _⟩ := Small_of_check h
  have h1 := sd.s0
  have h2 := sd.s1
  have e := canon_mul d.neg (62 - d.scale.toNat) (natOf d.dig) d.scale.toNat
  rw [show d.scale.toNat + (62 - d.scale.toNat) = 62 by omega] at e
  exact (val_canon h).1.trans e.symm
theorem val_ofV {d : D} (h : checkE d = 0) : d = ofV (vI d) := (val_at h).trans (canon_as _ _)
theorem neg_pos {d : D} (h : checkE d = 0) (hn : d.neg = true) : magN d ≠ 0 := by
  intro e
  have := val_at h
  rw [e, canon_zero] at this
  rw [this] at hn
  cases hn
theorem vI_neg {d : D} (h : checkE d = 0) : d.neg = decide (vI d < 0) := by
  unfold vI
  cases hn : d.neg
  · rw [if_neg (by decide), decide_eq_false (by omega)]
  · have := neg_pos h hn
    rw [if_pos rfl, decide_eq_true (by omega)]
theorem ofV_vI (v : Int) : vI (ofV v) = v := by
  unfold ofV vI magN
  rw [(canon_at _ _ _).1, (natOf_canon _ _ _).2.2]
  by_cases h0 : v.natAbs = 0
  · rw [if_pos h0, if_neg (by decide)]; omega
  · rw [if_neg h0]
    by_cases hv : v < 0
    · rw [decide_eq_true hv, if_pos rfl]; omega
    · rw [decide_eq_false hv, if_neg (by decide)]; omega
theorem vI_inj {a b : D} (ha : checkE a = 0) (hb : checkE b = 0) : a = b ↔ vI a = vI b := by
  refine ⟨fun e => by rw [e], fun e => ?_⟩
  rw [val_ofV ha, val_ofV hb, e]
theorem zero_iff {d : D} (h : checkE d = 0) : d.dig = [48] ↔ vI d = 0 := by
  have hd := val_ofV h
  constructor
  · intro e
    unfold vI magN
    rw [e]
    split <;> simp [natOf, dv]
  · intro e
    rw [hd, e]
    rfl
theorem other_vI {d : D} (h : checkE d = 0) : checkE (otherD d) = 0 ∧ vI (otherD d) = -vI d := by
  have hm : magN (otherD d) = magN d := rfl
  have hz := zero_iff h
  have hl := (val_canon h).2
  by_cases e : d.dig = [48]
  · have hv := hz.1 e
    have hd : d = zeroD := by rw [val_ofV h, hv]; rfl
    subst hd
    exact ⟨by decide, by decide⟩
  · have hn : (otherD d).neg = !d.neg := by unfold otherD; rw [decide_eq_false e]; simp
    have hm0 : magN d ≠ 0 := by
      intro e0
      have : vI d = 0 := by unfold vI; rw [e0]; split <;> rfl
      exact e (hz.2 this)
    have hc : otherD d = canon (!d.neg) (magN d) 62 := by
      have hd := val_at h
      obtain ⟨x1, x2, x3⟩ := natOf_canon (!d.neg) (magN d) 62
      obtain ⟨y1, y2, y3⟩ := natOf_canon d.neg (magN d) 62
      have e1 : (canon (!d.neg) (magN d) 62).dig = (canon d.neg (magN d) 62).dig := by
        unfold canon; rw [if_neg hm0, if_neg hm0]
      have e2 : (canon (!d.neg) (magN d) 62).scale = (canon d.neg (magN d) 62).scale := by
        unfold canon; rw [if_neg hm0, if_neg hm0]
      have e3 : (canon (!d.neg) (magN d) 62).neg = !d.neg := by rw [x3, if_neg hm0]
      have f1 : otherD d = ⟨!d.neg, d.dig, d.scale⟩ := by unfold otherD; rw [decide_eq_false e]; simp
      have f2 : canon (!d.neg) (magN d) 62 = ⟨(canon (!d.neg) (magN d) 62).neg, (canon (!d.neg) (magN d) 62).dig, (canon (!d.neg) (magN d) 62).scale⟩ := rfl
      rw [f1, f2, e1, e2, e3, ← hd]
    refine ⟨?_, ?_⟩
    · rw [hc]
      refine check_canon _ _ _ ?_
      rw [← hc]
      exact hl
    · unfold vI
      rw [hm, hn]
      cases d.neg <;> simp
theorem add_vI {a b : D} (ca : checkE a = 0) (cb : checkE b = 0) : addE a b = resE (ofV (vI a + vI b)) := by
  obtain ⟨sa, _, _, _⟩ := Small_of_check ca
  obtain ⟨sb, _, _, _⟩ := Small_of_check cb
  rw [add_at ca cb 62 sa.s1 sb.s1]
  have ea : natOf a.dig * 10 ^ (62 - a.scale.toNat) = magN a := rfl
  have eb : natOf b.dig * 10 ^ (62 - b.scale.toNat) = magN b := rfl
  rw [ea, eb]
  unfold vI
  cases a.neg <;> cases b.neg
  · rw [if_pos rfl, canon_as]; congr 2
  · rw [if_neg (by decide)]
    split
    · rw [canon_as]; congr 2; simp; omega
    · rw [canon_as]; congr 2; simp; omega
  · rw [if_neg (by decide)]
    split
    · rw [canon_as]; congr 2; simp; omega
    · rw [canon_as]; congr 2; simp; omega
  · rw [if_pos rfl, canon_as]; congr 2; simp; omega
theorem sub_vI {a b : D} (ca : checkE a = 0) (cb : checkE b = 0) : subE a b = resE (ofV (vI a - vI b)) := by
  obtain ⟨h1, h2⟩ := other_vI cb
  rw [subE, if_pos ⟨ca, cb⟩, add_vI ca h1, h2, ← Int.sub_eq_add_neg]
theorem compare_mag {a b : D} (ca : checkE a = 0) (cb : checkE b = 0) :
    cmpS (padL (extD a (alS a b)) (alN a b)) (padL (extD b (alS a b)) (alN a b)) = if magN a < magN b then -1 else if magN a = magN b then 0 else 1 := by
  obtain ⟨sa, da, _, _⟩ := Small_of_check ca
  obtain ⟨sb, db, _, _⟩ := Small_of_check cb
  obtain ⟨e1, e2, e3⟩ := alV_at sa sb 62 sa.s1 sb.s1
  obtain ⟨f1, _, _⟩ := alV_at sb sa 62 sb.s1 sa.s1
  rw [alS_comm b a] at f1
  have hp : 0 < 10 ^ (62 - (alS a b).toNat) := Nat.pow_pos (by omega)
  have la : ((extD a (alS a b)).length : Int) ≤ alN a b := by unfold alN; omega
  have lb : ((extD b (alS a b)).length : Int) ≤ alN a b := by unfold alN; omega
  rw [cmpS_nat (pad_all (ext_all da _) _) (pad_all (ext_all db _) _) (by rw [pad_length la, pad_length lb]), natOf_pad, natOf_pad, natOf_ext, natOf_ext]
  have va : natOf a.dig * 10 ^ (alS a b - a.scale).toNat = alV a b := rfl
  have vb : natOf b.dig * 10 ^ (alS a b - b.scale).toNat = alV b a := by unfold alV; rw [alS_comm b a]
  have ma : magN a = alV a b * 10 ^ (62 - (alS a b).toNat) := e1.symm
  have mb : magN b = alV b a * 10 ^ (62 - (alS a b).toNat) := f1.symm
  rw [va, vb, ma, mb]
  have q1 : alV a b * 10 ^ (62 - (alS a b).toNat) < alV b a * 10 ^ (62 - (alS a b).toNat) ↔ alV a b < alV b a := Nat.mul_lt_mul_right hp
  have q2 : alV a b * 10 ^ (62 - (alS a b).toNat) = alV b a * 10 ^ (62 - (alS a b).toNat) ↔ alV a b = alV b a := Nat.mul_left_inj (by omega)
  simp only [q1, q2]
theorem alN_comm (a b : D) : alN b a = alN a b := by
  unfold alN
  rw [alS_comm b a]
  omega
theorem compare_vI {a b : D} (ca : checkE a = 0) (cb : checkE b = 0) : compareE a b = (if vI a < vI b then -1 else if vI a = vI b then 0 else 1, 0) := by
  rw [compareE, if_pos ⟨ca, cb⟩]
  have h1 := compare_mag ca cb
  have h2 := compare_mag cb ca
  rw [alS_comm b a, alN_comm a b] at h2
  rw [h1, h2]
  have na := neg_pos ca
  have nb := neg_pos cb
  unfold vI
  cases ha : a.neg <;> cases hb : b.neg
  · simp only [Bool.false_eq_true, if_false, if_true]
    congr 1
    have q1 : (magN a : Int) < (magN b : Int) ↔ magN a < magN b := by omega
    have q2 : (magN a : Int) = (magN b : Int) ↔ magN a = magN b := by omega
    simp only [q1, q2]
  · have := nb hb
    simp
    omega
  · have := na ha
    simp
    omega
  · simp only [if_true]
    congr 1
    have q1 : -(magN a : Int) < -(magN b : Int) ↔ magN b < magN a := by omega
    have q2 : -(magN a : Int) = -(magN b : Int) ↔ magN b = magN a := by omega
    simp only [q1, q2]
end Go.Proofs.YthiiakghjoeikaaGreatDoor
