/-
  Contract: chosen of the statements.
  Conditions: none.
-/
import Derived.Test.YtnaioficflbioaaDoorRdD
set_option linter.unusedSimpArgs false
set_option linter.unnecessarySimpa false
set_option linter.unusedVariables false
namespace Go.Proofs.YtnaioficflbioaaDoor
open Go.AM
open Go.Proofs
open Go.Dec
open Go.Lib (decDigits)
set_option maxRecDepth 100000

/-- What is lost against half a step: the sign of it. -/
def halfN (d : D) (s : Int) : Int := if 2 * lostN d s < 10 ^ (d.scale - s).toNat then -1 else if 2 * lostN d s = 10 ^ (d.scale - s).toNat then 0 else 1
def outE (d near : D) (s m : Int) : Bool :=
  if m = 1 then decide (0 ≤ halfN d s)
  else if m = 2 then decide (0 < halfN d s) || (decide (halfN d s = 0) && oddE near s)
  else if m = 3 then decide (0 < halfN d s)
  else if m = 4 then true
  else if m = 5 then !d.neg
  else if m = 6 then d.neg
  else false
def chosenE (d : D) (s m : Int) : D := if lostB d s = false then d else if outE d (nearE d s) s m = true then farE d s else nearE d s

theorem half_first (b : UInt8) (r : List UInt8) (hb : dg b = true) (hr : r.all dg = true) : (b.toNat < 53 → 2 * natOf (b :: r) < 10 ^ (b :: r).length) ∧ (53 < b.toNat → 10 ^ (b :: r).length < 2 * natOf (b :: r)) ∧
    (b.toNat = 53 → natOf r ≠ 0 → 10 ^ (b :: r).length < 2 * natOf (b :: r)) ∧ (b.toNat = 53 → natOf r = 0 → 2 * natOf (b :: r) = 10 ^ (b :: r).length) := by
  have h1 := natOf_lt r hr
  have h2 := (dg_iff b).1 hb
  rw [natOf_cons, List.length_cons, Nat.pow_succ]
  have e : dv b = b.toNat - 48 := rfl
  have hp : 0 < 10 ^ r.length := Nat.pow_pos (by omega)
  generalize 10 ^ r.length = T at *
  refine ⟨fun h => ?_, fun h => ?_, fun h h' => ?_, fun h h' => ?_⟩
  · have : dv b * T ≤ 4 * T := Nat.mul_le_mul_right _ (by omega)
    omega
  · have : 6 * T ≤ dv b * T := Nat.mul_le_mul_right _ (by omega)
    omega
  · have : dv b = 5 := by omega
    rw [this]; omega
  · have : dv b = 5 := by omega
    rw [this]; omega
/-- What the statement's value says when i digits have been looked at. -/
def halfAt (l : List UInt8) (i : Nat) (v : Int) : Prop := (v < 0 → 2 * natOf l < 10 ^ l.length) ∧ (0 < v → 10 ^ l.length < 2 * natOf l) ∧ (v = 0 → (l.getD 0 0).toNat = 53 ∧ ∀ j, 1 ≤ j → j < i → l.getD j 0 = 48)
theorem cons_of (l : List UInt8) (hl : l ≠ []) : l = l.getD 0 0 :: l.drop 1 := by
  cases l with
  | nil => exact absurd rfl hl
  | cons a r => rfl
theorem halfAt_first {l : List UInt8} (hl : l.all dg = true) (hne : l ≠ []) (v : Int) (hv : v = ((l.getD 0 0).toNat : Int) - 53) : halfAt l 1 v := by
  have e := cons_of l hne
  rw [e] at hl
  simp only [List.all_cons, Bool.and_eq_true] at hl
  obtain ⟨h1, h2, _, _⟩ := half_first _ _ hl.1 hl.2
  rw [← e] at h1 h2
  exact ⟨fun h => h1 (by omega), fun h => h2 (by omega), fun h => ⟨by omega, fun j h1 h2 => by omega⟩⟩
theorem halfAt_next {l : List UInt8} (hl : l.all dg = true) (hne : l ≠ []) {i : Nat} (hi : i < l.length) (h1i : 1 ≤ i) (h : halfAt l i 0) (v : Int) (hv : v = ((l.getD i 0).toNat : Int) - 48) : halfAt l (i + 1) v := by
  have hd := dg_at hl i hi
  obtain ⟨q1, q2⟩ := h.2.2 rfl
  have e := cons_of l hne
  have hl' := hl
  rw [e] at hl'
  simp only [List.all_cons, Bool.and_eq_true] at hl'
  obtain ⟨_, _, h3, _⟩ := half_first _ _ hl'.1 hl'.2
  rw [← e] at h3
  refine ⟨fun h => by omega, fun h => h3 q1 fun hz => ?_, fun h => ⟨q1, fun j c1 c2 => ?_⟩⟩
  · have := (natOf_zero_iff _ hl'.2).1 hz (l.getD i 0) (by
      have : l.getD i 0 = (l.drop 1).getD (i - 1) 0 := by simp [List.getD]; rw [show i - 1 + 1 = i by omega]
      rw [this, List.getD, List.getElem?_eq_getElem (by simp; omega)]
      exact List.getElem_mem _)
    rw [this] at hv
    have e48 : (48 : UInt8).toNat = 48 := rfl
    omega
  · rcases Nat.eq_or_lt_of_le (show j ≤ i by omega) with e' | e'
    · subst e'
      exact UInt8.toNat_inj.1 (show (l.getD j 0).toNat = 48 by omega)
    · exact q2 j c1 e'
theorem halfAt_end {l : List UInt8} (hl : l.all dg = true) (hne : l ≠ []) {i : Nat} {v : Int} (h : halfAt l i v) (he : l.length ≤ i ∨ v ≠ 0) :
    (0 ≤ v) = (10 ^ l.length ≤ 2 * natOf l) ∧ (0 < v) = (10 ^ l.length < 2 * natOf l) ∧ (v = 0) = (2 * natOf l = 10 ^ l.length) := by
  obtain ⟨h1, h2, h3⟩ := h
  have hz : v = 0 → 2 * natOf l = 10 ^ l.length := fun hv => by
    obtain ⟨q1, q2⟩ := h3 hv
    have hi : l.length ≤ i := he.resolve_right fun e => e hv
    have e := cons_of l hne
    have hl' := hl
    rw [e] at hl'
    simp only [List.all_cons, Bool.and_eq_true] at hl'
    obtain ⟨_, _, _, h4⟩ := half_first _ _ hl'.1 hl'.2
    rw [← e] at h4
    refine h4 q1 ((natOf_zero_iff _ hl'.2).2 fun b hb => ?_)
    obtain ⟨j, hj, e'⟩ := List.getElem_of_mem hb
    have := q2 (1 + j) (by omega) (by simp at hj; omega)
    rw [← e']
    have hj' : 1 + j < l.length := by simp at hj; omega
    rw [List.getD, List.getElem?_eq_getElem hj', Option.getD_some] at this
    rw [List.getElem_drop]; exact this
  refine ⟨propext ⟨fun h => ?_, fun h => ?_⟩, propext ⟨fun h => h2 h, fun h => ?_⟩, propext ⟨hz, fun h => ?_⟩⟩
  · rcases Int.lt_or_eq_of_le h with e | e
    · have := h2 e; omega
    · have := hz e.symm; omega
  · refine Int.not_lt.1 fun e => ?_
    have := h1 e; omega
  · refine Int.lt_of_not_ge fun e => ?_
    rcases Int.lt_or_eq_of_le e with e | e
    · have := h1 e; omega
    · have := hz e; omega
  · rcases Int.lt_trichotomy v 0 with e | e | e
    · have := h1 e; omega
    · exact e
    · have := h2 e; omega
theorem nat_odd (n : Nat) : ((n : Int) % 2 = 1) = (n % 2 = 1) := propext (by omega)
theorem lostS_facts {d : D} {s : Int} (h : lostB d s = true) : (lostS d s).all dg = true ∧ (lostS d s).length = (d.scale - s).toNat ∧ natOf (lostS d s) = lostN d s ∧ lostS d s ≠ [] := by
  rw [lostS, if_pos h]
  have hs : s < d.scale := by
    unfold lostB at h
    simp only [Bool.and_eq_true, decide_eq_true_eq] at h
    exact h.1
  have hl := fixS_length (d.scale - s).toNat (lostN d s)
  refine ⟨fixS_all _ _, hl, natOf_fixS _ _ (Nat.mod_lt _ (Nat.pow_pos (by omega))), fun e => ?_⟩
  rw [e] at hl
  simp at hl
  omega
theorem half_iff (d : D) (s : Int) : (0 ≤ halfN d s) = (10 ^ (d.scale - s).toNat ≤ 2 * lostN d s) ∧ (0 < halfN d s) = (10 ^ (d.scale - s).toNat < 2 * lostN d s) ∧ (halfN d s = 0) = (2 * lostN d s = 10 ^ (d.scale - s).toNat) := by
  unfold halfN
  generalize 10 ^ (d.scale - s).toNat = T
  refine ⟨propext ?_, propext ?_, propext ?_⟩ <;> split <;> (try split) <;> omega

theorem canon_bound (neg : Bool) (n k L : Nat) (hL : 0 < L) (hn : n < 10 ^ L) : (canon neg n k).dig.length ≤ L ∧ (canon neg n k).scale ≤ k := by
  unfold canon
  split
  · exact ⟨by show 1 ≤ L; omega, by show (0 : Int) ≤ k; omega⟩
  · obtain ⟨h1, h2⟩ := strip_val k n
    refine ⟨(decDigits_lt hL).2 (Nat.lt_of_le_of_lt ?_ hn), by simp only; omega⟩
    have h3 : 10 ^ (strip n k).2 ≤ 10 ^ k := Nat.pow_le_pow_right (by omega) h2
    have h4 : (strip n k).1 * 10 ^ k ≤ n * 10 ^ k := by rw [h1]; exact Nat.mul_le_mul_left _ h3
    exact Nat.le_of_mul_le_mul_right h4 (Nat.pow_pos (by omega))
theorem nearE_bound {d : D} {s : Int} (sd : Small d) (dd : d.dig.all dg = true) (s0 : -62 ≤ s) (s1 : s ≤ 62) : (nearE d s).dig.length ≤ 124 ∧ 0 ≤ (nearE d s).scale ∧ (nearE d s).scale ≤ 62 := by
  have ha1 := sd.l
  unfold nearE
  split
  · have hn := natOf_lt _ dd
    have h1 : wholeN d s ≤ natOf d.dig := Nat.div_le_self _ _
    have h2 : wholeN d s * 10 ^ (-s).toNat < 10 ^ 124 := by
      have e1 : natOf d.dig < 10 ^ 62 := Nat.lt_of_lt_of_le hn (Nat.pow_le_pow_right (by omega) ha1)
      have e2 : 10 ^ (-s).toNat ≤ 10 ^ 62 := Nat.pow_le_pow_right (by omega) (by omega)
      calc wholeN d s * 10 ^ (-s).toNat ≤ wholeN d s * 10 ^ 62 := Nat.mul_le_mul_left _ e2
        _ < 10 ^ 62 * 10 ^ 62 := Nat.mul_lt_mul_of_pos_right (by omega) (Nat.pow_pos (by omega))
        _ = 10 ^ 124 := by rw [← Nat.pow_add]
    obtain ⟨c1, c2⟩ := canon_bound d.neg _ s.toNat 124 (by omega) h2
    exact ⟨c1, canon_scale _ _ _, by unfold stepsD; omega⟩
  · exact ⟨by omega, sd.s0, sd.s1⟩
set_option maxHeartbeats 2000000 in
theorem c_chosen (w₀ : World) (h : AHeap) (d : D) (s m : Int) (sd : Small d) (dd : d.dig.all dg = true) (s0 : -62 ≤ s) (s1 : s ≤ 62) :
    ACall Tryd.prog w₀ 14 [decA d, .int .i64 s, .int .i64 m] h (fun v h' => v = decA (chosenE d s m) ∧ h' = h) := by
  have ha1 := sd.l
  have ha2 := sd.s0
  have ha3 := sd.s1
  refine acall_intro (n := 107) (rs := [.cell 6 28]) Tryd.func14 rfl rfl rfl rfl (Nat.le_of_ble_eq_true rfl) ?_
  simp only [initSlots]
  -- region 0  law.go:129
  refine awp_rseq [1, 2, 3, 6] (by rfl) fun K hK => ?_
  refine aOps_box (by rfl) (by rfl) (by rfl) fun k0q0 hk0q0 => ?_
  try have hf_0q0 : h k0q0 = none := by first | assumption | (simp only [AHeap.set_none] at hk0q0; simp only [hk0q0])
  skip
  refine aOps_alloc ze28 (cs := [.bool false, .str [], .int .i64 0]) (by rfl) fun k0q1 hk0q1 => ?_
  have ne_0q1_0q0 : k0q1 ≠ k0q0 := by simp only [AHeap.set_none] at hk0q1; simp only [hk0q1, ne_eq, not_false_eq_true]
  try have hf_0q1 : h k0q1 = none := by first | assumption | (simp only [AHeap.set_none] at hk0q1; simp only [hk0q1])
  simp (decide := true) only [aOps_nil, ev, putD, Slots.put, Slots.get, Slots.keep, if_true, if_false, AVal.cells, Nat.zero_add, Nat.reduceAdd, decA]
  repeat (with_reducible refine And.intro ?_ ?_; · first | trivial | omega | (intro hg; simp only [Bool.and_eq_true, Bool.or_eq_true, Bool.not_eq_true', Bool.and_eq_false_iff, Bool.or_eq_false_iff, Bool.not_eq_false', decide_eq_true_eq, decide_eq_false_iff_not, eqNil] at hg; omega) )
  apply hK; clear hK K
  -- region 1  law.go:130
  refine awp_rseq [1, 2, 3, 6, 7, 8, 9, 10] (by rfl) fun K hK => ?_
  simp (decide := true) only [ev, putD, Slots.put, Slots.get, if_true, if_false, true_and, ↓ap_loadL, apL_mk, pLoad_agg ag28 sz28, ↓ap_move, pop_move, rd_ne', ne_eq, not_false_eq_true, ne_0q1_0q0.symm, rd_any, cellsAt, List.getD_cons_zero, List.getD_cons_succ, Nat.zero_add, Nat.reduceAdd, lv_bool, lv_int, lv_str, allLive, Bool.and_true]
  repeat (with_reducible refine And.intro ?_ ?_; · first | trivial | omega | (intro hg; simp only [Bool.and_eq_true, Bool.or_eq_true, Bool.not_eq_true', Bool.and_eq_false_iff, Bool.or_eq_false_iff, Bool.not_eq_false', decide_eq_true_eq, decide_eq_false_iff_not, eqNil] at hg; omega) )
  refine aOps_callV (V := .tuple [decA (nearE d s), decA (farE d s), .str (lostS d s), .bool (lostB d s)]) (by rfl) (by rfl) (c_neighbors w₀ _ d s sd dd s0 s1) ?_
  simp (decide := true) only [ev, putD, Slots.put, Slots.get, if_true, if_false, true_and, ↓ap_move, pop_move, ↓ap_extract, pop_extract, pExt_tuple, List.length_cons, List.length_nil, List.getD_cons_zero, List.getD_cons_succ, List.getD_cons_zero, List.getD_cons_succ, Nat.zero_add, Nat.reduceAdd, decA]
  repeat (with_reducible refine And.intro ?_ ?_; · first | trivial | omega | (intro hg; simp only [Bool.and_eq_true, Bool.or_eq_true, Bool.not_eq_true', Bool.and_eq_false_iff, Bool.or_eq_false_iff, Bool.not_eq_false', decide_eq_true_eq, decide_eq_false_iff_not, eqNil] at hg; omega) )
  refine aOps_alloc ze28 (cs := [.bool false, .str [], .int .i64 0]) (by rfl) fun k1q8 hk1q8 => ?_
  have ne_1q8_0q0 : k1q8 ≠ k0q0 := by simp only [AHeap.set_none] at hk1q8; simp only [hk1q8, ne_eq, not_false_eq_true]
  have ne_1q8_0q1 : k1q8 ≠ k0q1 := by simp only [AHeap.set_none] at hk1q8; simp only [hk1q8, ne_eq, not_false_eq_true]
  try have hf_1q8 : h k1q8 = none := by first | assumption | (simp only [AHeap.set_none] at hk1q8; simp only [hk1q8])
  refine aOps_alloc ze28 (cs := [.bool false, .str [], .int .i64 0]) (by rfl) fun k1q9 hk1q9 => ?_
  have ne_1q9_0q0 : k1q9 ≠ k0q0 := by simp only [AHeap.set_none] at hk1q9; simp only [hk1q9, ne_eq, not_false_eq_true]
  have ne_1q9_0q1 : k1q9 ≠ k0q1 := by simp only [AHeap.set_none] at hk1q9; simp only [hk1q9, ne_eq, not_false_eq_true]
  have ne_1q9_1q8 : k1q9 ≠ k1q8 := by simp only [AHeap.set_none] at hk1q9; simp only [hk1q9, ne_eq, not_false_eq_true]
  try have hf_1q9 : h k1q9 = none := by first | assumption | (simp only [AHeap.set_none] at hk1q9; simp only [hk1q9])
  refine aOps_store (by rfl) (by rfl) (by repeat (first | exact AHeap.set_same _ _ _ | assumption | refine (AHeap.set_ne _ _ (by first | assumption | exact Ne.symm (by assumption))).trans ?_)) sz28 (by rfl) (by rfl) (by first | exact Nat.le_refl _ | decide | (simp; done) | (simp; omega)) (Nat.zero_le _) (by rfl) ?_
  simp only [AVal.cells]
  refine aOps_store (by rfl) (by rfl) (by repeat (first | exact AHeap.set_same _ _ _ | assumption | refine (AHeap.set_ne _ _ (by first | assumption | exact Ne.symm (by assumption))).trans ?_)) sz28 (by rfl) (by rfl) (by first | exact Nat.le_refl _ | decide | (simp; done) | (simp; omega)) (Nat.zero_le _) (by rfl) ?_
  simp only [AVal.cells]
  simp (decide := true) only [aOps_nil, ev, putD, Slots.put, Slots.get, Slots.keep, if_true, if_false, true_and, ↓ap_assign, pop_assign, setAt, List.set_cons_zero, List.set_cons_succ, Nat.zero_add, Nat.reduceAdd]
  repeat (with_reducible refine And.intro ?_ ?_; · first | trivial | omega | (intro hg; simp only [Bool.and_eq_true, Bool.or_eq_true, Bool.not_eq_true', Bool.and_eq_false_iff, Bool.or_eq_false_iff, Bool.not_eq_false', decide_eq_true_eq, decide_eq_false_iff_not, eqNil] at hg; omega) )
  apply hK; clear hK K
  refine awp_seq ?_
  -- region 2  law.go:131
  refine awp_rseq [1, 2, 3, 6, 7, 8, 9, 24] (by rfl) fun K hK => ?_
  simp (decide := true) only [aOps_nil, ev, putD, Slots.put, Slots.get, Slots.keep, if_true, if_false, true_and, ↓ap_move, pop_move, ↓ap_unOp, pop_unOp, pU_not]
  try simp (disch := omega) only [Int.tmod_eq_emod_of_nonneg, Int.tdiv_eq_ediv_of_nonneg, wrap_i64, wrap_u8]
  repeat (with_reducible refine And.intro ?_ ?_; · first | trivial | omega | (intro hg; simp only [Bool.and_eq_true, Bool.or_eq_true, Bool.not_eq_true', Bool.and_eq_false_iff, Bool.or_eq_false_iff, Bool.not_eq_false', decide_eq_true_eq, decide_eq_false_iff_not, eqNil] at hg; omega) )
  apply hK; clear hK K
  refine awp_cond (b := _) rfl (fun hb1 => ?_) (fun hb1 => ?_)
  · try simp only [Bool.not_eq_true'] at hb1
    -- region 3  law.go:132
    refine awp_rseq [6] (by rfl) fun K hK => ?_
    simp (decide := true) only [ev, putD, Slots.put, Slots.get, if_true, if_false, true_and, ↓ap_loadL, apL_mk, pLoad_agg ag28 sz28, rd_ne', ne_eq, not_false_eq_true, ne_0q1_0q0.symm, ne_1q8_0q0.symm, ne_1q9_0q0.symm, rd_any, cellsAt, List.getD_cons_zero, List.getD_cons_succ, Nat.zero_add, Nat.reduceAdd, lv_bool, lv_int, lv_str, allLive, Bool.and_true]
    repeat (with_reducible refine And.intro ?_ ?_; · first | trivial | omega | (intro hg; simp only [Bool.and_eq_true, Bool.or_eq_true, Bool.not_eq_true', Bool.and_eq_false_iff, Bool.or_eq_false_iff, Bool.not_eq_false', decide_eq_true_eq, decide_eq_false_iff_not, eqNil] at hg; omega) )
    refine aOps_store (by rfl) (by rfl) (by repeat (first | exact AHeap.set_same _ _ _ | assumption | refine (AHeap.set_ne _ _ (by first | assumption | exact Ne.symm (by assumption))).trans ?_)) sz28 (by rfl) (by rfl) (by first | exact Nat.le_refl _ | decide | (simp; done) | (simp; omega)) (Nat.zero_le _) (by rfl) ?_
    simp only [AVal.cells]
    simp (decide := true) only [aOps_nil, ev, putD, Slots.get, Slots.keep, if_true, if_false, setAt, List.set_cons_zero, List.set_cons_succ, Nat.zero_add, Nat.reduceAdd]
    repeat (with_reducible refine And.intro ?_ ?_; · first | trivial | omega | (intro hg; simp only [Bool.and_eq_true, Bool.or_eq_true, Bool.not_eq_true', Bool.and_eq_false_iff, Bool.or_eq_false_iff, Bool.not_eq_false', decide_eq_true_eq, decide_eq_false_iff_not, eqNil] at hg; omega) )
    apply hK; clear hK K
    refine awp_ret ?_
    try simp only [thenA_ret]
    refine retA_ret h (by repeat (first | exact Sub.refl _ | refine Sub.trans_set ?_ (by assumption))) (?_) ?_
    · simp (decide := true) only [resPre, resV_cell, Slots.get, if_true, and_true, resV_cell, pLoad_agg ag28 sz28, rd_set, cellsAt, List.getD_cons_zero, List.getD_cons_succ, Nat.zero_add, Nat.reduceAdd, lv_bool, lv_int, lv_str, allLive, Bool.and_true, cellsAt, List.getD_cons_zero, List.getD_cons_succ, Nat.zero_add, Nat.reduceAdd, lv_bool, lv_int, lv_str, allLive, Bool.and_true]
    
    simp (decide := true) only [Slots.get, if_true, and_true, resOfG_one, resV_cell, pLoad_agg ag28 sz28, rd_set, cellsAt, List.getD_cons_zero, List.getD_cons_succ, Nat.zero_add, Nat.reduceAdd, lv_bool, lv_int, lv_str, allLive, Bool.and_true, cellsAt, List.getD_cons_zero, List.getD_cons_succ, Nat.zero_add, Nat.reduceAdd, lv_bool, lv_int, lv_str, allLive, Bool.and_true, decA]
    rw [chosenE, if_pos hb1]
  · try simp only [Bool.not_eq_false'] at hb1
    obtain ⟨nb1, nb2, nb3⟩ := nearE_bound sd dd s0 s1
    obtain ⟨la, ll, ln, lne⟩ := lostS_facts hb1
    obtain ⟨l, hl⟩ : ∃ l, l = lostS d s := ⟨_, rfl⟩
    rw [← hl] at la ll ln lne
    have lpos : 0 < l.length := List.length_pos_iff.2 lne
    have l200 : l.length ≤ 124 := by rw [ll]; omega
    simp only [← hl]
    have hd0 := dg_at la 0 lpos
    refine awp_skip ?_
    change Awp _ _ _ _ _ _ _
    -- region 4  law.go:134
    refine awp_rseq [1, 2, 3, 6, 7, 8, 9, 11] (by rfl) fun K hK => ?_
    simp (decide := true) only [aOps_nil, ev, absV, absS, putD, Slots.put, Slots.keep, if_true, if_false, true_and, ↓ap_assign, pop_assign]
    repeat (with_reducible refine And.intro ?_ ?_; · first | trivial | omega | (intro hg; simp only [Bool.and_eq_true, Bool.or_eq_true, Bool.not_eq_true', Bool.and_eq_false_iff, Bool.or_eq_false_iff, Bool.not_eq_false', decide_eq_true_eq, decide_eq_false_iff_not, eqNil] at hg; omega) )
    apply hK; clear hK K
    refine awp_seq ?_
    -- region 5  law.go:135
    refine awp_rseq [1, 2, 3, 6, 7, 8, 9, 11, 28] (by rfl) fun K hK => ?_
    simp (decide := true) only [aOps_nil, ev, absV, absS, putD, Slots.put, Slots.get, Slots.keep, if_true, if_false, true_and, ↓ap_move, pop_move, ↓ap_index, pop_index, pIndex_str Tryd.underlying9, ↓ap_binOp, pop_binOp, pBinX_int, pI_neq, show Int.toNat 0 = 0 from rfl]
    repeat (with_reducible refine And.intro ?_ ?_; · first | trivial | omega | (intro hg; simp only [Bool.and_eq_true, Bool.or_eq_true, Bool.not_eq_true', Bool.and_eq_false_iff, Bool.or_eq_false_iff, Bool.not_eq_false', decide_eq_true_eq, decide_eq_false_iff_not, eqNil] at hg; omega) )
    apply hK; clear hK K
    refine awp_joinT [1, 2, 3, 6, 7, 8, 9, 11] (fun v : Int => [(1, .int .i64 s), (2, .int .i64 m), (3, .ptr (.own k0q0) 0), (6, .ptr (.own k0q1) 0), (7, .ptr (.own k1q8) 0), (8, .ptr (.own k1q9) 0), (9, .str l), (11, .int .i64 v)]) (fun v : Int => (((((h.set k0q0 ⟨[.bool d.neg, .str d.dig, .int .i64 d.scale], 0⟩).set k0q1 ⟨[.bool false, .str [], .int .i64 0], 0⟩).set k1q8 ⟨[.bool false, .str [], .int .i64 0], 0⟩).set k1q9 ⟨[.bool false, .str [], .int .i64 0], 0⟩).set k1q8 ⟨[.bool (nearE d s).neg, .str (nearE d s).dig, .int .i64 (nearE d s).scale], 0⟩).set k1q9 ⟨[.bool (farE d s).neg, .str (farE d s).dig, .int .i64 (farE d s).scale], 0⟩) (fun v : Int => v = ((l.getD 0 0).toNat : Int) - 53) ?_ ?_
    · refine awp_cond (b := _) rfl (fun hb2 => ?_) (fun hb2 => ?_)
      · try simp only [decide_eq_false_iff_not, Bool.not_eq_true'] at hb2
        -- region 6  law.go:136
        refine awp_r [1, 2, 3, 6, 7, 8, 9, 11] (by rfl) ?_
        simp (decide := true) only [aOps_nil, ev, absV, absS, putD, Slots.put, Slots.get, Slots.keep, if_true, if_false, true_and, ↓ap_move, pop_move, ↓ap_index, pop_index, pIndex_str Tryd.underlying9, ↓ap_convert _ _ _ (es_int Tryd.underlying5 Tryd.underlying3), pop_convert, pConv_int Tryd.underlying5 Tryd.underlying3, ↓ap_binOp, pop_binOp, pBinX_int, pI_sub, ↓ap_assign, pop_assign, decA, show Int.toNat 0 = 0 from rfl]
        try simp (disch := omega) only [wrap_i64]
        repeat (with_reducible refine And.intro ?_ ?_; · first | trivial | omega | (intro hg; simp only [Bool.and_eq_true, Bool.or_eq_true, Bool.not_eq_true', Bool.and_eq_false_iff, Bool.or_eq_false_iff, Bool.not_eq_false', decide_eq_true_eq, decide_eq_false_iff_not, eqNil] at hg; omega) )
        try simp only [thenA_normal]
        first
        | exact ⟨_, rfl, Sub.refl _, rfl⟩
        | exact ⟨0, rfl, Sub.refl _, by omega⟩
      · try simp only [decide_eq_true_eq, Bool.not_eq_false'] at hb2
        refine awp_skip ?_
        try simp only [thenA_normal]
        first
        | exact ⟨_, rfl, Sub.refl _, rfl⟩
        | exact ⟨0, rfl, Sub.refl _, by omega⟩
    · intro v hv
      have hA := halfAt_first la lne v hv
      refine awp_seq ?_
      -- region 7  law.go:138
      refine awp_rseq [1, 2, 3, 6, 7, 8, 9, 11, 12] (by rfl) fun K hK => ?_
      simp (decide := true) only [aOps_nil, ev, absV, absS, putD, Slots.put, Slots.keep, if_true, if_false, true_and, ↓ap_assign, pop_assign]
      repeat (with_reducible refine And.intro ?_ ?_; · first | trivial | omega | (intro hg; simp only [Bool.and_eq_true, Bool.or_eq_true, Bool.not_eq_true', Bool.and_eq_false_iff, Bool.or_eq_false_iff, Bool.not_eq_false', decide_eq_true_eq, decide_eq_false_iff_not, eqNil] at hg; omega) )
      apply hK; clear hK K
      refine awp_block ?_
      refine awp_loopG [1, 2, 3, 6, 7, 8, 9, 11, 12] (fun g : Nat × Int => [(1, .int .i64 s), (2, .int .i64 m), (3, .ptr (.own k0q0) 0), (6, .ptr (.own k0q1) 0), (7, .ptr (.own k1q8) 0), (8, .ptr (.own k1q9) 0), (9, .str l), (11, .int .i64 g.2), (12, .int .i64 g.1)]) (fun g : Nat × Int => (((((h.set k0q0 ⟨[.bool d.neg, .str d.dig, .int .i64 d.scale], 0⟩).set k0q1 ⟨[.bool false, .str [], .int .i64 0], 0⟩).set k1q8 ⟨[.bool false, .str [], .int .i64 0], 0⟩).set k1q9 ⟨[.bool false, .str [], .int .i64 0], 0⟩).set k1q8 ⟨[.bool (nearE d s).neg, .str (nearE d s).dig, .int .i64 (nearE d s).scale], 0⟩).set k1q9 ⟨[.bool (farE d s).neg, .str (farE d s).dig, .int .i64 (farE d s).scale], 0⟩) (fun g : Nat × Int => 1 ≤ g.1 ∧ g.1 ≤ l.length ∧ halfAt l g.1 g.2) (fun g : Nat × Int => l.length - g.1) (1, v) rfl (Sub.refl _) ⟨Nat.le_refl _, lpos, hA⟩ ?_
      rintro ⟨i, v⟩ ⟨hi1, hi2, hH⟩
      simp only at hi1 hi2 hH
      refine awp_seq ?_
      -- region 8  law.go:138
      refine awp_rseq [1, 2, 3, 6, 7, 8, 9, 11, 12, 40] (by rfl) fun K hK => ?_
      simp (decide := true) only [aOps_nil, ev, absV, absS, putD, Slots.put, Slots.get, Slots.keep, if_true, if_false, true_and, ↓ap_move, pop_move, ↓ap_len, pop_len, pLen_str Tryd.underlying9, ↓ap_binOp, pop_binOp, pBinX_int, pI_lss, ↓ag_move, agP, agQ_some, nthDst, gKnown_bool, guardB_bool_true, implies_true, ↓ag_binOp, cv_binl, cp_binl, pI_eql, ↓ap_pick, pop_pick, pPick_bool, pickV_cond_l, pickV_and]
      repeat (with_reducible refine And.intro ?_ ?_; · first | trivial | omega | (intro hg; simp only [Bool.and_eq_true, Bool.or_eq_true, Bool.not_eq_true', Bool.and_eq_false_iff, Bool.or_eq_false_iff, Bool.not_eq_false', decide_eq_true_eq, decide_eq_false_iff_not, eqNil] at hg; omega) )
      apply hK; clear hK K
      refine awp_cond (b := _) rfl (fun hb3 => ?_) (fun hb3 => ?_)
      · try simp only [decide_eq_true_eq, Bool.and_eq_true] at hb3
        have hdi := dg_at la i (by omega)
        refine awp_skip ?_
        change Awp _ _ _ _ _ _ _
        refine awp_seq ?_
        refine awp_block ?_
        -- region 10  law.go:139
        refine awp_r [1, 2, 3, 6, 7, 8, 9, 11, 12] (by rfl) ?_
        simp (decide := true) only [aOps_nil, ev, absV, absS, putD, Slots.put, Slots.get, Slots.keep, if_true, if_false, true_and, ↓ap_move, pop_move, ↓ap_index, pop_index, pIndex_str Tryd.underlying9, ↓ap_convert _ _ _ (es_int Tryd.underlying5 Tryd.underlying3), pop_convert, pConv_int Tryd.underlying5 Tryd.underlying3, ↓ap_binOp, pop_binOp, pBinX_int, pI_sub, ↓ap_assign, pop_assign, decA, Int.toNat_natCast]
        try simp (disch := omega) only [wrap_i64]
        repeat (with_reducible refine And.intro ?_ ?_; · first | trivial | omega | (intro hg; simp only [Bool.and_eq_true, Bool.or_eq_true, Bool.not_eq_true', Bool.and_eq_false_iff, Bool.or_eq_false_iff, Bool.not_eq_false', decide_eq_true_eq, decide_eq_false_iff_not, eqNil] at hg; omega) )
        change Awp _ _ _ _ _ _ _
        -- region 9  law.go:138
        refine awp_r [1, 2, 3, 6, 7, 8, 9, 11, 12] (by rfl) ?_
        simp (decide := true) only [aOps_nil, ev, absV, absS, putD, Slots.put, Slots.get, Slots.keep, if_true, if_false, true_and, ↓ap_move, pop_move, ↓ap_binOp, pop_binOp, pBinX_int, pI_add, ↓ap_assign, pop_assign]
        try simp (disch := omega) only [wrap_i64]
        repeat (with_reducible refine And.intro ?_ ?_; · first | trivial | omega | (intro hg; simp only [Bool.and_eq_true, Bool.or_eq_true, Bool.not_eq_true', Bool.and_eq_false_iff, Bool.or_eq_false_iff, Bool.not_eq_false', decide_eq_true_eq, decide_eq_false_iff_not, eqNil] at hg; omega) )
        try simp only [thenA_normal]
        obtain ⟨c1, c2⟩ := hb3
        subst c2
        refine ⟨(i + 1, ((l.getD i 0).toNat : Int) - 48), rfl, Sub.refl _, ⟨by simp only; omega, by simp only; omega, halfAt_next la lne (by omega) hi1 hH _ rfl⟩, by simp only; omega⟩
      · try simp only [decide_eq_false_iff_not, Bool.and_eq_false_iff] at hb3
        have hend := halfAt_end la lne hH (by rcases hb3 with e | e; exact .inl (by omega); exact .inr e)
        rw [ll, ln, ← (half_iff d s).1, ← (half_iff d s).2.1, ← (half_iff d s).2.2] at hend
        obtain ⟨v1, v2, v3⟩ := hend
        refine awp_exit ?_
        change Awp _ _ _ _ _ _ _
        -- region 11  law.go:141
        refine awp_rseq [1, 2, 3, 6, 7, 8, 11, 13] (by rfl) fun K hK => ?_
        simp (decide := true) only [aOps_nil, ev, absV, absS, putD, Slots.put, Slots.keep, if_true, if_false, true_and, ↓ap_assign, pop_assign]
        repeat (with_reducible refine And.intro ?_ ?_; · first | trivial | omega | (intro hg; simp only [Bool.and_eq_true, Bool.or_eq_true, Bool.not_eq_true', Bool.and_eq_false_iff, Bool.or_eq_false_iff, Bool.not_eq_false', decide_eq_true_eq, decide_eq_false_iff_not, eqNil] at hg; omega) )
        apply hK; clear hK K
        refine awp_seq ?_
        -- region 12  law.go:142
        refine awp_rseq [1, 3, 6, 7, 8, 11, 13, 48] (by rfl) fun K hK => ?_
        simp (decide := true) only [aOps_nil, ev, putD, Slots.put, Slots.get, Slots.keep, if_true, if_false, true_and, ↓ap_move, pop_move]
        repeat (with_reducible refine And.intro ?_ ?_; · first | trivial | omega | (intro hg; simp only [Bool.and_eq_true, Bool.or_eq_true, Bool.not_eq_true', Bool.and_eq_false_iff, Bool.or_eq_false_iff, Bool.not_eq_false', decide_eq_true_eq, decide_eq_false_iff_not, eqNil] at hg; omega) )
        apply hK; clear hK K
        refine awp_block ?_
        -- region 13  law.go:143
        refine awp_rseq [1, 3, 6, 7, 8, 11, 13, 48, 49] (by rfl) fun K hK => ?_
        simp (decide := true) only [aOps_nil, ev, absV, absS, putD, Slots.put, Slots.get, Slots.keep, if_true, if_false, true_and, ↓ap_binOp, pop_binOp, pBinX_int, pI_eql, ↓ap_assign, pop_assign]
        repeat (with_reducible refine And.intro ?_ ?_; · first | trivial | omega | (intro hg; simp only [Bool.and_eq_true, Bool.or_eq_true, Bool.not_eq_true', Bool.and_eq_false_iff, Bool.or_eq_false_iff, Bool.not_eq_false', decide_eq_true_eq, decide_eq_false_iff_not, eqNil] at hg; omega) )
        apply hK; clear hK K
        refine awp_cond (b := _) rfl (fun hb4 => ?_) (fun hb4 => ?_)
        · try simp only [decide_eq_true_eq] at hb4
          -- region 14  law.go:144
          refine awp_r [6, 7, 8, 13] (by rfl) ?_
          simp (decide := true) only [aOps_nil, ev, absV, absS, putD, Slots.put, Slots.get, Slots.keep, if_true, if_false, true_and, ↓ap_move, pop_move, ↓ap_binOp, pop_binOp, pBinX_int, pI_geq, ↓ap_assign, pop_assign, decA, v1]
          repeat (with_reducible refine And.intro ?_ ?_; · first | trivial | omega | (intro hg; simp only [Bool.and_eq_true, Bool.or_eq_true, Bool.not_eq_true', Bool.and_eq_false_iff, Bool.or_eq_false_iff, Bool.not_eq_false', decide_eq_true_eq, decide_eq_false_iff_not, eqNil] at hg; omega) )
          change Awp _ _ _ _ _ _ _
          refine awp_seq ?_
          -- region 26  law.go:158
          refine awp_rseq [6, 7, 8, 104] (by rfl) fun K hK => ?_
          simp (decide := true) only [aOps_nil, ev, putD, Slots.put, Slots.get, Slots.keep, if_true, if_false, true_and, ↓ap_move, pop_move]
          repeat (with_reducible refine And.intro ?_ ?_; · first | trivial | omega | (intro hg; simp only [Bool.and_eq_true, Bool.or_eq_true, Bool.not_eq_true', Bool.and_eq_false_iff, Bool.or_eq_false_iff, Bool.not_eq_false', decide_eq_true_eq, decide_eq_false_iff_not, eqNil] at hg; omega) )
          apply hK; clear hK K
          refine awp_cond (b := _) rfl (fun hb5 => ?_) (fun hb5 => ?_)
          · try simp only [decide_eq_true_eq] at hb5
            -- region 27  law.go:159
            refine awp_rseq [6] (by rfl) fun K hK => ?_
            simp (decide := true) only [ev, putD, Slots.put, Slots.get, if_true, if_false, true_and, ↓ap_loadL, apL_mk, pLoad_agg ag28 sz28, rd_any, cellsAt, List.getD_cons_zero, List.getD_cons_succ, Nat.zero_add, Nat.reduceAdd, lv_bool, lv_int, lv_str, allLive, Bool.and_true]
            repeat (with_reducible refine And.intro ?_ ?_; · first | trivial | omega | (intro hg; simp only [Bool.and_eq_true, Bool.or_eq_true, Bool.not_eq_true', Bool.and_eq_false_iff, Bool.or_eq_false_iff, Bool.not_eq_false', decide_eq_true_eq, decide_eq_false_iff_not, eqNil] at hg; omega) )
            refine aOps_store (by rfl) (by rfl) (by repeat (first | exact AHeap.set_same _ _ _ | assumption | refine (AHeap.set_ne _ _ (by first | assumption | exact Ne.symm (by assumption))).trans ?_)) sz28 (by rfl) (by rfl) (by first | exact Nat.le_refl _ | decide | (simp; done) | (simp; omega)) (Nat.zero_le _) (by rfl) ?_
            simp only [AVal.cells]
            simp (decide := true) only [aOps_nil, ev, putD, Slots.get, Slots.keep, if_true, if_false, setAt, List.set_cons_zero, List.set_cons_succ, Nat.zero_add, Nat.reduceAdd]
            repeat (with_reducible refine And.intro ?_ ?_; · first | trivial | omega | (intro hg; simp only [Bool.and_eq_true, Bool.or_eq_true, Bool.not_eq_true', Bool.and_eq_false_iff, Bool.or_eq_false_iff, Bool.not_eq_false', decide_eq_true_eq, decide_eq_false_iff_not, eqNil] at hg; omega) )
            apply hK; clear hK K
            refine awp_ret ?_
            try simp only [thenA_ret]
            refine retA_ret h (by repeat (first | exact Sub.refl _ | refine Sub.trans_set ?_ (by assumption))) (?_) ?_
            · simp (decide := true) only [resPre, resV_cell, Slots.get, if_true, and_true, resV_cell, pLoad_agg ag28 sz28, rd_set, cellsAt, List.getD_cons_zero, List.getD_cons_succ, Nat.zero_add, Nat.reduceAdd, lv_bool, lv_int, lv_str, allLive, Bool.and_true, cellsAt, List.getD_cons_zero, List.getD_cons_succ, Nat.zero_add, Nat.reduceAdd, lv_bool, lv_int, lv_str, allLive, Bool.and_true]
            
            simp (decide := true) only [Slots.get, if_true, and_true, resOfG_one, resV_cell, pLoad_agg ag28 sz28, rd_set, cellsAt, List.getD_cons_zero, List.getD_cons_succ, Nat.zero_add, Nat.reduceAdd, lv_bool, lv_int, lv_str, allLive, Bool.and_true, cellsAt, List.getD_cons_zero, List.getD_cons_succ, Nat.zero_add, Nat.reduceAdd, lv_bool, lv_int, lv_str, allLive, Bool.and_true]
            have hcl : lostB d s = false ↔ False := by rw [hb1]; decide
            clear v1 v2 v3 hH hA hv hd0 la ll ln lne lpos l200 hl hb1 hb3
            first
            | (simp [chosenE, outE, *]; done)
            | (have ho : outE d (nearE d s) s m = true := by
                 unfold outE oddE
                 rw [if_neg hb4, if_pos hb6]
                 simp only [Bool.or_eq_true, Bool.and_eq_true, decide_eq_true_eq]
                 simp only [nat_odd] at hb7
                 rcases hb7 with e | ⟨⟨⟨e1, e2⟩, e3⟩, e4⟩
                 · exact .inl e
                 · exact .inr ⟨e1, e2, e3, e4⟩
               simp only [chosenE, hcl, if_false, ho, if_true])
            | (have ho : outE d (nearE d s) s m = false := by
                 unfold outE oddE
                 rw [if_neg hb4, if_pos hb6]
                 refine Bool.eq_false_iff.2 fun e => ?_
                 simp only [Bool.or_eq_true, Bool.and_eq_true, decide_eq_true_eq] at e
                 simp only [nat_odd] at hb7
                 obtain ⟨q1, q2⟩ := hb7
                 rcases e with e | ⟨e1, e2, e3, e4⟩
                 · exact q1 e
                 · rcases q2 with ((q | q) | q) | q
                   · exact q e1
                   · exact q e2
                   · exact q e3
                   · exact q e4
               simp only [chosenE, hcl, if_false, ho, Bool.false_eq_true])
          · try simp only [decide_eq_false_iff_not] at hb5
            refine awp_skip ?_
            change Awp _ _ _ _ _ _ _
            -- region 28  law.go:161
            refine awp_rseq [6] (by rfl) fun K hK => ?_
            simp (decide := true) only [ev, putD, Slots.put, Slots.get, if_true, if_false, true_and, ↓ap_loadL, apL_mk, pLoad_agg ag28 sz28, rd_ne', ne_eq, not_false_eq_true, ne_1q9_1q8.symm, rd_any, cellsAt, List.getD_cons_zero, List.getD_cons_succ, Nat.zero_add, Nat.reduceAdd, lv_bool, lv_int, lv_str, allLive, Bool.and_true]
            repeat (with_reducible refine And.intro ?_ ?_; · first | trivial | omega | (intro hg; simp only [Bool.and_eq_true, Bool.or_eq_true, Bool.not_eq_true', Bool.and_eq_false_iff, Bool.or_eq_false_iff, Bool.not_eq_false', decide_eq_true_eq, decide_eq_false_iff_not, eqNil] at hg; omega) )
            refine aOps_store (by rfl) (by rfl) (by repeat (first | exact AHeap.set_same _ _ _ | assumption | refine (AHeap.set_ne _ _ (by first | assumption | exact Ne.symm (by assumption))).trans ?_)) sz28 (by rfl) (by rfl) (by first | exact Nat.le_refl _ | decide | (simp; done) | (simp; omega)) (Nat.zero_le _) (by rfl) ?_
            simp only [AVal.cells]
            simp (decide := true) only [aOps_nil, ev, putD, Slots.get, Slots.keep, if_true, if_false, setAt, List.set_cons_zero, List.set_cons_succ, Nat.zero_add, Nat.reduceAdd]
            repeat (with_reducible refine And.intro ?_ ?_; · first | trivial | omega | (intro hg; simp only [Bool.and_eq_true, Bool.or_eq_true, Bool.not_eq_true', Bool.and_eq_false_iff, Bool.or_eq_false_iff, Bool.not_eq_false', decide_eq_true_eq, decide_eq_false_iff_not, eqNil] at hg; omega) )
            apply hK; clear hK K
            refine awp_ret ?_
            try simp only [thenA_ret, inBlockA_ret]
            refine retA_ret h (by repeat (first | exact Sub.refl _ | refine Sub.trans_set ?_ (by assumption))) (?_) ?_
            · simp (decide := true) only [resPre, resV_cell, Slots.get, if_true, and_true, resV_cell, pLoad_agg ag28 sz28, rd_set, cellsAt, List.getD_cons_zero, List.getD_cons_succ, Nat.zero_add, Nat.reduceAdd, lv_bool, lv_int, lv_str, allLive, Bool.and_true, cellsAt, List.getD_cons_zero, List.getD_cons_succ, Nat.zero_add, Nat.reduceAdd, lv_bool, lv_int, lv_str, allLive, Bool.and_true]
            
            simp (decide := true) only [Slots.get, if_true, and_true, resOfG_one, resV_cell, pLoad_agg ag28 sz28, rd_set, cellsAt, List.getD_cons_zero, List.getD_cons_succ, Nat.zero_add, Nat.reduceAdd, lv_bool, lv_int, lv_str, allLive, Bool.and_true, cellsAt, List.getD_cons_zero, List.getD_cons_succ, Nat.zero_add, Nat.reduceAdd, lv_bool, lv_int, lv_str, allLive, Bool.and_true]
            have hcl : lostB d s = false ↔ False := by rw [hb1]; decide
            clear v1 v2 v3 hH hA hv hd0 la ll ln lne lpos l200 hl hb1 hb3
            first
            | (simp [chosenE, outE, *]; done)
            | (have ho : outE d (nearE d s) s m = true := by
                 unfold outE oddE
                 rw [if_neg hb4, if_pos hb6]
                 simp only [Bool.or_eq_true, Bool.and_eq_true, decide_eq_true_eq]
                 simp only [nat_odd] at hb7
                 rcases hb7 with e | ⟨⟨⟨e1, e2⟩, e3⟩, e4⟩
                 · exact .inl e
                 · exact .inr ⟨e1, e2, e3, e4⟩
               simp only [chosenE, hcl, if_false, ho, if_true])
            | (have ho : outE d (nearE d s) s m = false := by
                 unfold outE oddE
                 rw [if_neg hb4, if_pos hb6]
                 refine Bool.eq_false_iff.2 fun e => ?_
                 simp only [Bool.or_eq_true, Bool.and_eq_true, decide_eq_true_eq] at e
                 simp only [nat_odd] at hb7
                 obtain ⟨q1, q2⟩ := hb7
                 rcases e with e | ⟨e1, e2, e3, e4⟩
                 · exact q1 e
                 · rcases q2 with ((q | q) | q) | q
                   · exact q e1
                   · exact q e2
                   · exact q e3
                   · exact q e4
               simp only [chosenE, hcl, if_false, ho, Bool.false_eq_true])
        · try simp only [decide_eq_false_iff_not] at hb4
          -- region 15  law.go:145
          refine awp_rseq [1, 3, 6, 7, 8, 11, 13, 48, 53] (by rfl) fun K hK => ?_
          simp (decide := true) only [aOps_nil, ev, absV, absS, putD, Slots.put, Slots.get, Slots.keep, if_true, if_false, true_and, ↓ap_binOp, pop_binOp, pBinX_int, pI_eql, ↓ap_assign, pop_assign]
          repeat (with_reducible refine And.intro ?_ ?_; · first | trivial | omega | (intro hg; simp only [Bool.and_eq_true, Bool.or_eq_true, Bool.not_eq_true', Bool.and_eq_false_iff, Bool.or_eq_false_iff, Bool.not_eq_false', decide_eq_true_eq, decide_eq_false_iff_not, eqNil] at hg; omega) )
          apply hK; clear hK K
          refine awp_cond (b := _) rfl (fun hb6 => ?_) (fun hb6 => ?_)
          · try simp only [decide_eq_true_eq] at hb6
            -- region 16  law.go:147
            refine awp_rseq [6, 7, 8, 11, 14] (by rfl) fun K hK => ?_
            simp (decide := true) only [aOps_nil, ev, absV, absS, putD, Slots.put, Slots.get, Slots.keep, if_true, if_false, true_and, ↓ap_fieldAddr, pop_fieldAddr, fa28_1, ↓ap_loadL, apL_mk, pLoad_one ag9, ↓ap_len, pop_len, pLen_str Tryd.underlying9, ↓ap_binOp, pop_binOp, pBinX_int, pI_sub, fa28_2, pLoad_one ag3, ↓ap_move, pop_move, ↓ap_assign, pop_assign, rd_ne', ne_eq, not_false_eq_true, ne_1q9_1q8.symm, rd_any, List.getD_cons_zero, List.getD_cons_succ, Nat.zero_add, lv_int, lv_str]
            try simp (disch := omega) only [wrap_i64]
            repeat (with_reducible refine And.intro ?_ ?_; · first | trivial | omega | (intro hg; simp only [Bool.and_eq_true, Bool.or_eq_true, Bool.not_eq_true', Bool.and_eq_false_iff, Bool.or_eq_false_iff, Bool.not_eq_false', decide_eq_true_eq, decide_eq_false_iff_not, eqNil] at hg; omega) )
            apply hK; clear hK K
            -- region 17  law.go:148
            refine awp_r [6, 7, 8, 13] (by rfl) ?_
            simp (decide := true) only [aOps_nil, ev, absV, absS, putD, Slots.put, Slots.get, Slots.keep, if_true, if_false, true_and, ↓ap_move, pop_move, ↓ap_binOp, pop_binOp, pBinX_int, pI_gtr, ↓ag_move, agP, agQ_some, nthDst, gKnown_bool, gKnown_cond, guardB_cond, guardB_bool_true, guardB_bool_false, cv_cv, implies_true, ↓ag_binOp, cv_binl, cv_binr, cp_binl, cp_binr, pI_eql, pI_geq, ↓ag_pick, pop_pick, pPick_bool, pickV_cond_r, cp_nest1, pickV_and, pickV_or, cv_pick, cp_pick, ↓ag_fieldAddr, pop_fieldAddr, fa28_1, ↓ag_loadL, agQL_some, agL_mk, agL_ld3, pLoad_one ag9, ↓ag_len, pop_len, pLen_str Tryd.underlying9, cv_len, cp_len, pI_lss, ↓ag_index, pop_index, pIndex_str Tryd.underlying9, cv_indexl, cv_indexr, cp_indexl, cp_indexr, pI_rem, ↓ap_pick, ↓ap_assign, pop_assign, rd_ne', ne_eq, not_false_eq_true, ne_1q9_1q8.symm, rd_any, List.getD_cons_zero, List.getD_cons_succ, Nat.zero_add, lv_str, decA, v2, v3]
            try simp (disch := omega) only [Int.tmod_eq_emod_of_nonneg]
            repeat (with_reducible refine And.intro ?_ ?_; · first | trivial | omega | (intro hg; simp only [Bool.and_eq_true, Bool.not_eq_true', decide_eq_true_eq, decide_eq_false_iff_not] at hg; omega) )
            change Awp _ _ _ _ _ _ _
            refine awp_seq ?_
            -- region 26  law.go:158
            refine awp_rseq [6, 7, 8, 104] (by rfl) fun K hK => ?_
            simp (decide := true) only [aOps_nil, ev, putD, Slots.put, Slots.get, Slots.keep, if_true, if_false, true_and, ↓ap_move, pop_move]
            repeat (with_reducible refine And.intro ?_ ?_; · first | trivial | omega | (intro hg; simp only [Bool.and_eq_true, Bool.or_eq_true, Bool.not_eq_true', Bool.and_eq_false_iff, Bool.or_eq_false_iff, Bool.not_eq_false', decide_eq_true_eq, decide_eq_false_iff_not, eqNil] at hg; omega) )
            apply hK; clear hK K
            refine awp_cond (b := _) rfl (fun hb7 => ?_) (fun hb7 => ?_)
            · try simp only [decide_eq_true_eq, Bool.and_eq_true, Bool.or_eq_true] at hb7
              -- region 27  law.go:159
              refine awp_rseq [6] (by rfl) fun K hK => ?_
              simp (decide := true) only [ev, putD, Slots.put, Slots.get, if_true, if_false, true_and, ↓ap_loadL, apL_mk, pLoad_agg ag28 sz28, rd_any, cellsAt, List.getD_cons_zero, List.getD_cons_succ, Nat.zero_add, Nat.reduceAdd, lv_bool, lv_int, lv_str, allLive, Bool.and_true]
              repeat (with_reducible refine And.intro ?_ ?_; · first | trivial | omega | (intro hg; simp only [Bool.and_eq_true, Bool.or_eq_true, Bool.not_eq_true', Bool.and_eq_false_iff, Bool.or_eq_false_iff, Bool.not_eq_false', decide_eq_true_eq, decide_eq_false_iff_not, eqNil] at hg; omega) )
              refine aOps_store (by rfl) (by rfl) (by repeat (first | exact AHeap.set_same _ _ _ | assumption | refine (AHeap.set_ne _ _ (by first | assumption | exact Ne.symm (by assumption))).trans ?_)) sz28 (by rfl) (by rfl) (by first | exact Nat.le_refl _ | decide | (simp; done) | (simp; omega)) (Nat.zero_le _) (by rfl) ?_
              simp only [AVal.cells]
              simp (decide := true) only [aOps_nil, ev, putD, Slots.get, Slots.keep, if_true, if_false, setAt, List.set_cons_zero, List.set_cons_succ, Nat.zero_add, Nat.reduceAdd]
              repeat (with_reducible refine And.intro ?_ ?_; · first | trivial | omega | (intro hg; simp only [Bool.and_eq_true, Bool.or_eq_true, Bool.not_eq_true', Bool.and_eq_false_iff, Bool.or_eq_false_iff, Bool.not_eq_false', decide_eq_true_eq, decide_eq_false_iff_not, eqNil] at hg; omega) )
              apply hK; clear hK K
              refine awp_ret ?_
              try simp only [thenA_ret]
              refine retA_ret h (by repeat (first | exact Sub.refl _ | refine Sub.trans_set ?_ (by assumption))) (?_) ?_
              · simp (decide := true) only [resPre, resV_cell, Slots.get, if_true, and_true, resV_cell, pLoad_agg ag28 sz28, rd_set, cellsAt, List.getD_cons_zero, List.getD_cons_succ, Nat.zero_add, Nat.reduceAdd, lv_bool, lv_int, lv_str, allLive, Bool.and_true, cellsAt, List.getD_cons_zero, List.getD_cons_succ, Nat.zero_add, Nat.reduceAdd, lv_bool, lv_int, lv_str, allLive, Bool.and_true]
              
              simp (decide := true) only [Slots.get, if_true, and_true, resOfG_one, resV_cell, pLoad_agg ag28 sz28, rd_set, cellsAt, List.getD_cons_zero, List.getD_cons_succ, Nat.zero_add, Nat.reduceAdd, lv_bool, lv_int, lv_str, allLive, Bool.and_true, cellsAt, List.getD_cons_zero, List.getD_cons_succ, Nat.zero_add, Nat.reduceAdd, lv_bool, lv_int, lv_str, allLive, Bool.and_true]
              have hcl : lostB d s = false ↔ False := by rw [hb1]; decide
              clear v1 v2 v3 hH hA hv hd0 la ll ln lne lpos l200 hl hb1 hb3
              first
              | (simp [chosenE, outE, *]; done)
              | (have ho : outE d (nearE d s) s m = true := by
                   unfold outE oddE
                   rw [if_neg hb4, if_pos hb6]
                   simp only [Bool.or_eq_true, Bool.and_eq_true, decide_eq_true_eq]
                   simp only [nat_odd] at hb7
                   rcases hb7 with e | ⟨⟨⟨e1, e2⟩, e3⟩, e4⟩
                   · exact .inl e
                   · exact .inr ⟨e1, e2, e3, e4⟩
                 simp only [chosenE, hcl, if_false, ho, if_true])
              | (have ho : outE d (nearE d s) s m = false := by
                   unfold outE oddE
                   rw [if_neg hb4, if_pos hb6]
                   refine Bool.eq_false_iff.2 fun e => ?_
                   simp only [Bool.or_eq_true, Bool.and_eq_true, decide_eq_true_eq] at e
                   simp only [nat_odd] at hb7
                   obtain ⟨q1, q2⟩ := hb7
                   rcases e with e | ⟨e1, e2, e3, e4⟩
                   · exact q1 e
                   · rcases q2 with ((q | q) | q) | q
                     · exact q e1
                     · exact q e2
                     · exact q e3
                     · exact q e4
                 simp only [chosenE, hcl, if_false, ho, Bool.false_eq_true])
            · try simp only [decide_eq_false_iff_not, Bool.and_eq_false_iff, Bool.or_eq_false_iff] at hb7
              refine awp_skip ?_
              change Awp _ _ _ _ _ _ _
              -- region 28  law.go:161
              refine awp_rseq [6] (by rfl) fun K hK => ?_
              simp (decide := true) only [ev, putD, Slots.put, Slots.get, if_true, if_false, true_and, ↓ap_loadL, apL_mk, pLoad_agg ag28 sz28, rd_ne', ne_eq, not_false_eq_true, ne_1q9_1q8.symm, rd_any, cellsAt, List.getD_cons_zero, List.getD_cons_succ, Nat.zero_add, Nat.reduceAdd, lv_bool, lv_int, lv_str, allLive, Bool.and_true]
              repeat (with_reducible refine And.intro ?_ ?_; · first | trivial | omega | (intro hg; simp only [Bool.and_eq_true, Bool.or_eq_true, Bool.not_eq_true', Bool.and_eq_false_iff, Bool.or_eq_false_iff, Bool.not_eq_false', decide_eq_true_eq, decide_eq_false_iff_not, eqNil] at hg; omega) )
              refine aOps_store (by rfl) (by rfl) (by repeat (first | exact AHeap.set_same _ _ _ | assumption | refine (AHeap.set_ne _ _ (by first | assumption | exact Ne.symm (by assumption))).trans ?_)) sz28 (by rfl) (by rfl) (by first | exact Nat.le_refl _ | decide | (simp; done) | (simp; omega)) (Nat.zero_le _) (by rfl) ?_
              simp only [AVal.cells]
              simp (decide := true) only [aOps_nil, ev, putD, Slots.get, Slots.keep, if_true, if_false, setAt, List.set_cons_zero, List.set_cons_succ, Nat.zero_add, Nat.reduceAdd]
              repeat (with_reducible refine And.intro ?_ ?_; · first | trivial | omega | (intro hg; simp only [Bool.and_eq_true, Bool.or_eq_true, Bool.not_eq_true', Bool.and_eq_false_iff, Bool.or_eq_false_iff, Bool.not_eq_false', decide_eq_true_eq, decide_eq_false_iff_not, eqNil] at hg; omega) )
              apply hK; clear hK K
              refine awp_ret ?_
              try simp only [thenA_ret, inBlockA_ret]
              refine retA_ret h (by repeat (first | exact Sub.refl _ | refine Sub.trans_set ?_ (by assumption))) (?_) ?_
              · simp (decide := true) only [resPre, resV_cell, Slots.get, if_true, and_true, resV_cell, pLoad_agg ag28 sz28, rd_set, cellsAt, List.getD_cons_zero, List.getD_cons_succ, Nat.zero_add, Nat.reduceAdd, lv_bool, lv_int, lv_str, allLive, Bool.and_true, cellsAt, List.getD_cons_zero, List.getD_cons_succ, Nat.zero_add, Nat.reduceAdd, lv_bool, lv_int, lv_str, allLive, Bool.and_true]
              
              simp (decide := true) only [Slots.get, if_true, and_true, resOfG_one, resV_cell, pLoad_agg ag28 sz28, rd_set, cellsAt, List.getD_cons_zero, List.getD_cons_succ, Nat.zero_add, Nat.reduceAdd, lv_bool, lv_int, lv_str, allLive, Bool.and_true, cellsAt, List.getD_cons_zero, List.getD_cons_succ, Nat.zero_add, Nat.reduceAdd, lv_bool, lv_int, lv_str, allLive, Bool.and_true]
              have hcl : lostB d s = false ↔ False := by rw [hb1]; decide
              clear v1 v2 v3 hH hA hv hd0 la ll ln lne lpos l200 hl hb1 hb3
              first
              | (simp [chosenE, outE, *]; done)
              | (have ho : outE d (nearE d s) s m = true := by
                   unfold outE oddE
                   rw [if_neg hb4, if_pos hb6]
                   simp only [Bool.or_eq_true, Bool.and_eq_true, decide_eq_true_eq]
                   simp only [nat_odd] at hb7
                   rcases hb7 with e | ⟨⟨⟨e1, e2⟩, e3⟩, e4⟩
                   · exact .inl e
                   · exact .inr ⟨e1, e2, e3, e4⟩
                 simp only [chosenE, hcl, if_false, ho, if_true])
              | (have ho : outE d (nearE d s) s m = false := by
                   unfold outE oddE
                   rw [if_neg hb4, if_pos hb6]
                   refine Bool.eq_false_iff.2 fun e => ?_
                   simp only [Bool.or_eq_true, Bool.and_eq_true, decide_eq_true_eq] at e
                   simp only [nat_odd] at hb7
                   obtain ⟨q1, q2⟩ := hb7
                   rcases e with e | ⟨e1, e2, e3, e4⟩
                   · exact q1 e
                   · rcases q2 with ((q | q) | q) | q
                     · exact q e1
                     · exact q e2
                     · exact q e3
                     · exact q e4
                 simp only [chosenE, hcl, if_false, ho, Bool.false_eq_true])
          · try simp only [decide_eq_false_iff_not] at hb6
            -- region 18  law.go:149
            refine awp_rseq [3, 6, 7, 8, 11, 13, 48, 89] (by rfl) fun K hK => ?_
            simp (decide := true) only [aOps_nil, ev, absV, absS, putD, Slots.put, Slots.get, Slots.keep, if_true, if_false, true_and, ↓ap_binOp, pop_binOp, pBinX_int, pI_eql, ↓ap_assign, pop_assign]
            repeat (with_reducible refine And.intro ?_ ?_; · first | trivial | omega | (intro hg; simp only [Bool.and_eq_true, Bool.or_eq_true, Bool.not_eq_true', Bool.and_eq_false_iff, Bool.or_eq_false_iff, Bool.not_eq_false', decide_eq_true_eq, decide_eq_false_iff_not, eqNil] at hg; omega) )
            apply hK; clear hK K
            refine awp_cond (b := _) rfl (fun hb8 => ?_) (fun hb8 => ?_)
            · try simp only [decide_eq_true_eq] at hb8
              -- region 19  law.go:150
              refine awp_r [6, 7, 8, 13] (by rfl) ?_
              simp (decide := true) only [aOps_nil, ev, absV, absS, putD, Slots.put, Slots.get, Slots.keep, if_true, if_false, true_and, ↓ap_move, pop_move, ↓ap_binOp, pop_binOp, pBinX_int, pI_gtr, ↓ap_assign, pop_assign, decA, v2]
              repeat (with_reducible refine And.intro ?_ ?_; · first | trivial | omega | (intro hg; simp only [Bool.and_eq_true, Bool.or_eq_true, Bool.not_eq_true', Bool.and_eq_false_iff, Bool.or_eq_false_iff, Bool.not_eq_false', decide_eq_true_eq, decide_eq_false_iff_not, eqNil] at hg; omega) )
              change Awp _ _ _ _ _ _ _
              refine awp_seq ?_
              -- region 26  law.go:158
              refine awp_rseq [6, 7, 8, 104] (by rfl) fun K hK => ?_
              simp (decide := true) only [aOps_nil, ev, putD, Slots.put, Slots.get, Slots.keep, if_true, if_false, true_and, ↓ap_move, pop_move]
              repeat (with_reducible refine And.intro ?_ ?_; · first | trivial | omega | (intro hg; simp only [Bool.and_eq_true, Bool.or_eq_true, Bool.not_eq_true', Bool.and_eq_false_iff, Bool.or_eq_false_iff, Bool.not_eq_false', decide_eq_true_eq, decide_eq_false_iff_not, eqNil] at hg; omega) )
              apply hK; clear hK K
              refine awp_cond (b := _) rfl (fun hb9 => ?_) (fun hb9 => ?_)
              · try simp only [decide_eq_true_eq] at hb9
                -- region 27  law.go:159
                refine awp_rseq [6] (by rfl) fun K hK => ?_
                simp (decide := true) only [ev, putD, Slots.put, Slots.get, if_true, if_false, true_and, ↓ap_loadL, apL_mk, pLoad_agg ag28 sz28, rd_any, cellsAt, List.getD_cons_zero, List.getD_cons_succ, Nat.zero_add, Nat.reduceAdd, lv_bool, lv_int, lv_str, allLive, Bool.and_true]
                repeat (with_reducible refine And.intro ?_ ?_; · first | trivial | omega | (intro hg; simp only [Bool.and_eq_true, Bool.or_eq_true, Bool.not_eq_true', Bool.and_eq_false_iff, Bool.or_eq_false_iff, Bool.not_eq_false', decide_eq_true_eq, decide_eq_false_iff_not, eqNil] at hg; omega) )
                refine aOps_store (by rfl) (by rfl) (by repeat (first | exact AHeap.set_same _ _ _ | assumption | refine (AHeap.set_ne _ _ (by first | assumption | exact Ne.symm (by assumption))).trans ?_)) sz28 (by rfl) (by rfl) (by first | exact Nat.le_refl _ | decide | (simp; done) | (simp; omega)) (Nat.zero_le _) (by rfl) ?_
                simp only [AVal.cells]
                simp (decide := true) only [aOps_nil, ev, putD, Slots.get, Slots.keep, if_true, if_false, setAt, List.set_cons_zero, List.set_cons_succ, Nat.zero_add, Nat.reduceAdd]
                repeat (with_reducible refine And.intro ?_ ?_; · first | trivial | omega | (intro hg; simp only [Bool.and_eq_true, Bool.or_eq_true, Bool.not_eq_true', Bool.and_eq_false_iff, Bool.or_eq_false_iff, Bool.not_eq_false', decide_eq_true_eq, decide_eq_false_iff_not, eqNil] at hg; omega) )
                apply hK; clear hK K
                refine awp_ret ?_
                try simp only [thenA_ret]
                refine retA_ret h (by repeat (first | exact Sub.refl _ | refine Sub.trans_set ?_ (by assumption))) (?_) ?_
                · simp (decide := true) only [resPre, resV_cell, Slots.get, if_true, and_true, resV_cell, pLoad_agg ag28 sz28, rd_set, cellsAt, List.getD_cons_zero, List.getD_cons_succ, Nat.zero_add, Nat.reduceAdd, lv_bool, lv_int, lv_str, allLive, Bool.and_true, cellsAt, List.getD_cons_zero, List.getD_cons_succ, Nat.zero_add, Nat.reduceAdd, lv_bool, lv_int, lv_str, allLive, Bool.and_true]
                
                simp (decide := true) only [Slots.get, if_true, and_true, resOfG_one, resV_cell, pLoad_agg ag28 sz28, rd_set, cellsAt, List.getD_cons_zero, List.getD_cons_succ, Nat.zero_add, Nat.reduceAdd, lv_bool, lv_int, lv_str, allLive, Bool.and_true, cellsAt, List.getD_cons_zero, List.getD_cons_succ, Nat.zero_add, Nat.reduceAdd, lv_bool, lv_int, lv_str, allLive, Bool.and_true]
                have hcl : lostB d s = false ↔ False := by rw [hb1]; decide
                clear v1 v2 v3 hH hA hv hd0 la ll ln lne lpos l200 hl hb1 hb3
                first
                | (simp [chosenE, outE, *]; done)
                | (have ho : outE d (nearE d s) s m = true := by
                     unfold outE oddE
                     rw [if_neg hb4, if_pos hb6]
                     simp only [Bool.or_eq_true, Bool.and_eq_true, decide_eq_true_eq]
                     simp only [nat_odd] at hb7
                     rcases hb7 with e | ⟨⟨⟨e1, e2⟩, e3⟩, e4⟩
                     · exact .inl e
                     · exact .inr ⟨e1, e2, e3, e4⟩
                   simp only [chosenE, hcl, if_false, ho, if_true])
                | (have ho : outE d (nearE d s) s m = false := by
                     unfold outE oddE
                     rw [if_neg hb4, if_pos hb6]
                     refine Bool.eq_false_iff.2 fun e => ?_
                     simp only [Bool.or_eq_true, Bool.and_eq_true, decide_eq_true_eq] at e
                     simp only [nat_odd] at hb7
                     obtain ⟨q1, q2⟩ := hb7
                     rcases e with e | ⟨e1, e2, e3, e4⟩
                     · exact q1 e
                     · rcases q2 with ((q | q) | q) | q
                       · exact q e1
                       · exact q e2
                       · exact q e3
                       · exact q e4
                   simp only [chosenE, hcl, if_false, ho, Bool.false_eq_true])
              · try simp only [decide_eq_false_iff_not] at hb9
                refine awp_skip ?_
                change Awp _ _ _ _ _ _ _
                -- region 28  law.go:161
                refine awp_rseq [6] (by rfl) fun K hK => ?_
                simp (decide := true) only [ev, putD, Slots.put, Slots.get, if_true, if_false, true_and, ↓ap_loadL, apL_mk, pLoad_agg ag28 sz28, rd_ne', ne_eq, not_false_eq_true, ne_1q9_1q8.symm, rd_any, cellsAt, List.getD_cons_zero, List.getD_cons_succ, Nat.zero_add, Nat.reduceAdd, lv_bool, lv_int, lv_str, allLive, Bool.and_true]
                repeat (with_reducible refine And.intro ?_ ?_; · first | trivial | omega | (intro hg; simp only [Bool.and_eq_true, Bool.or_eq_true, Bool.not_eq_true', Bool.and_eq_false_iff, Bool.or_eq_false_iff, Bool.not_eq_false', decide_eq_true_eq, decide_eq_false_iff_not, eqNil] at hg; omega) )
                refine aOps_store (by rfl) (by rfl) (by repeat (first | exact AHeap.set_same _ _ _ | assumption | refine (AHeap.set_ne _ _ (by first | assumption | exact Ne.symm (by assumption))).trans ?_)) sz28 (by rfl) (by rfl) (by first | exact Nat.le_refl _ | decide | (simp; done) | (simp; omega)) (Nat.zero_le _) (by rfl) ?_
                simp only [AVal.cells]
                simp (decide := true) only [aOps_nil, ev, putD, Slots.get, Slots.keep, if_true, if_false, setAt, List.set_cons_zero, List.set_cons_succ, Nat.zero_add, Nat.reduceAdd]
                repeat (with_reducible refine And.intro ?_ ?_; · first | trivial | omega | (intro hg; simp only [Bool.and_eq_true, Bool.or_eq_true, Bool.not_eq_true', Bool.and_eq_false_iff, Bool.or_eq_false_iff, Bool.not_eq_false', decide_eq_true_eq, decide_eq_false_iff_not, eqNil] at hg; omega) )
                apply hK; clear hK K
                refine awp_ret ?_
                try simp only [thenA_ret, inBlockA_ret]
                refine retA_ret h (by repeat (first | exact Sub.refl _ | refine Sub.trans_set ?_ (by assumption))) (?_) ?_
                · simp (decide := true) only [resPre, resV_cell, Slots.get, if_true, and_true, resV_cell, pLoad_agg ag28 sz28, rd_set, cellsAt, List.getD_cons_zero, List.getD_cons_succ, Nat.zero_add, Nat.reduceAdd, lv_bool, lv_int, lv_str, allLive, Bool.and_true, cellsAt, List.getD_cons_zero, List.getD_cons_succ, Nat.zero_add, Nat.reduceAdd, lv_bool, lv_int, lv_str, allLive, Bool.and_true]
                
                simp (decide := true) only [Slots.get, if_true, and_true, resOfG_one, resV_cell, pLoad_agg ag28 sz28, rd_set, cellsAt, List.getD_cons_zero, List.getD_cons_succ, Nat.zero_add, Nat.reduceAdd, lv_bool, lv_int, lv_str, allLive, Bool.and_true, cellsAt, List.getD_cons_zero, List.getD_cons_succ, Nat.zero_add, Nat.reduceAdd, lv_bool, lv_int, lv_str, allLive, Bool.and_true]
                have hcl : lostB d s = false ↔ False := by rw [hb1]; decide
                clear v1 v2 v3 hH hA hv hd0 la ll ln lne lpos l200 hl hb1 hb3
                first
                | (simp [chosenE, outE, *]; done)
                | (have ho : outE d (nearE d s) s m = true := by
                     unfold outE oddE
                     rw [if_neg hb4, if_pos hb6]
                     simp only [Bool.or_eq_true, Bool.and_eq_true, decide_eq_true_eq]
                     simp only [nat_odd] at hb7
                     rcases hb7 with e | ⟨⟨⟨e1, e2⟩, e3⟩, e4⟩
                     · exact .inl e
                     · exact .inr ⟨e1, e2, e3, e4⟩
                   simp only [chosenE, hcl, if_false, ho, if_true])
                | (have ho : outE d (nearE d s) s m = false := by
                     unfold outE oddE
                     rw [if_neg hb4, if_pos hb6]
                     refine Bool.eq_false_iff.2 fun e => ?_
                     simp only [Bool.or_eq_true, Bool.and_eq_true, decide_eq_true_eq] at e
                     simp only [nat_odd] at hb7
                     obtain ⟨q1, q2⟩ := hb7
                     rcases e with e | ⟨e1, e2, e3, e4⟩
                     · exact q1 e
                     · rcases q2 with ((q | q) | q) | q
                       · exact q e1
                       · exact q e2
                       · exact q e3
                       · exact q e4
                   simp only [chosenE, hcl, if_false, ho, Bool.false_eq_true])
            · try simp only [decide_eq_false_iff_not] at hb8
              -- region 20  law.go:151
              refine awp_rseq [3, 6, 7, 8, 13, 48, 93] (by rfl) fun K hK => ?_
              simp (decide := true) only [aOps_nil, ev, absV, absS, putD, Slots.put, Slots.get, Slots.keep, if_true, if_false, true_and, ↓ap_binOp, pop_binOp, pBinX_int, pI_eql, ↓ap_assign, pop_assign]
              repeat (with_reducible refine And.intro ?_ ?_; · first | trivial | omega | (intro hg; simp only [Bool.and_eq_true, Bool.or_eq_true, Bool.not_eq_true', Bool.and_eq_false_iff, Bool.or_eq_false_iff, Bool.not_eq_false', decide_eq_true_eq, decide_eq_false_iff_not, eqNil] at hg; omega) )
              apply hK; clear hK K
              refine awp_cond (b := _) rfl (fun hb10 => ?_) (fun hb10 => ?_)
              · try simp only [decide_eq_true_eq] at hb10
                -- region 21  law.go:152
                refine awp_r [6, 7, 8, 13] (by rfl) ?_
                simp (decide := true) only [aOps_nil, ev, absV, absS, putD, Slots.put, Slots.keep, if_true, if_false, true_and, ↓ap_assign, pop_assign, decA]
                repeat (with_reducible refine And.intro ?_ ?_; · first | trivial | omega | (intro hg; simp only [Bool.and_eq_true, Bool.or_eq_true, Bool.not_eq_true', Bool.and_eq_false_iff, Bool.or_eq_false_iff, Bool.not_eq_false', decide_eq_true_eq, decide_eq_false_iff_not, eqNil] at hg; omega) )
                change Awp _ _ _ _ _ _ _
                refine awp_seq ?_
                -- region 26  law.go:158
                refine awp_rseq [6, 7, 8, 104] (by rfl) fun K hK => ?_
                simp (decide := true) only [aOps_nil, ev, putD, Slots.put, Slots.get, Slots.keep, if_true, if_false, true_and, ↓ap_move, pop_move]
                repeat (with_reducible refine And.intro ?_ ?_; · first | trivial | omega | (intro hg; simp only [Bool.and_eq_true, Bool.or_eq_true, Bool.not_eq_true', Bool.and_eq_false_iff, Bool.or_eq_false_iff, Bool.not_eq_false', decide_eq_true_eq, decide_eq_false_iff_not, eqNil] at hg; omega) )
                apply hK; clear hK K
                refine awp_cond (b := _) rfl (fun hb11 => ?_) (fun hb11 => ?_)
                · try simp only at hb11
                  -- region 27  law.go:159
                  refine awp_rseq [6] (by rfl) fun K hK => ?_
                  simp (decide := true) only [ev, putD, Slots.put, Slots.get, if_true, if_false, true_and, ↓ap_loadL, apL_mk, pLoad_agg ag28 sz28, rd_any, cellsAt, List.getD_cons_zero, List.getD_cons_succ, Nat.zero_add, Nat.reduceAdd, lv_bool, lv_int, lv_str, allLive, Bool.and_true]
                  repeat (with_reducible refine And.intro ?_ ?_; · first | trivial | omega | (intro hg; simp only [Bool.and_eq_true, Bool.or_eq_true, Bool.not_eq_true', Bool.and_eq_false_iff, Bool.or_eq_false_iff, Bool.not_eq_false', decide_eq_true_eq, decide_eq_false_iff_not, eqNil] at hg; omega) )
                  refine aOps_store (by rfl) (by rfl) (by repeat (first | exact AHeap.set_same _ _ _ | assumption | refine (AHeap.set_ne _ _ (by first | assumption | exact Ne.symm (by assumption))).trans ?_)) sz28 (by rfl) (by rfl) (by first | exact Nat.le_refl _ | decide | (simp; done) | (simp; omega)) (Nat.zero_le _) (by rfl) ?_
                  simp only [AVal.cells]
                  simp (decide := true) only [aOps_nil, ev, putD, Slots.get, Slots.keep, if_true, if_false, setAt, List.set_cons_zero, List.set_cons_succ, Nat.zero_add, Nat.reduceAdd]
                  repeat (with_reducible refine And.intro ?_ ?_; · first | trivial | omega | (intro hg; simp only [Bool.and_eq_true, Bool.or_eq_true, Bool.not_eq_true', Bool.and_eq_false_iff, Bool.or_eq_false_iff, Bool.not_eq_false', decide_eq_true_eq, decide_eq_false_iff_not, eqNil] at hg; omega) )
                  apply hK; clear hK K
                  refine awp_ret ?_
                  try simp only [thenA_ret]
                  refine retA_ret h (by repeat (first | exact Sub.refl _ | refine Sub.trans_set ?_ (by assumption))) (?_) ?_
                  · simp (decide := true) only [resPre, resV_cell, Slots.get, if_true, and_true, resV_cell, pLoad_agg ag28 sz28, rd_set, cellsAt, List.getD_cons_zero, List.getD_cons_succ, Nat.zero_add, Nat.reduceAdd, lv_bool, lv_int, lv_str, allLive, Bool.and_true, cellsAt, List.getD_cons_zero, List.getD_cons_succ, Nat.zero_add, Nat.reduceAdd, lv_bool, lv_int, lv_str, allLive, Bool.and_true]
                  
                  simp (decide := true) only [Slots.get, if_true, and_true, resOfG_one, resV_cell, pLoad_agg ag28 sz28, rd_set, cellsAt, List.getD_cons_zero, List.getD_cons_succ, Nat.zero_add, Nat.reduceAdd, lv_bool, lv_int, lv_str, allLive, Bool.and_true, cellsAt, List.getD_cons_zero, List.getD_cons_succ, Nat.zero_add, Nat.reduceAdd, lv_bool, lv_int, lv_str, allLive, Bool.and_true]
                  have hcl : lostB d s = false ↔ False := by rw [hb1]; decide
                  clear v1 v2 v3 hH hA hv hd0 la ll ln lne lpos l200 hl hb1 hb3
                  first
                  | (simp [chosenE, outE, *]; done)
                  | (have ho : outE d (nearE d s) s m = true := by
                       unfold outE oddE
                       rw [if_neg hb4, if_pos hb6]
                       simp only [Bool.or_eq_true, Bool.and_eq_true, decide_eq_true_eq]
                       simp only [nat_odd] at hb7
                       rcases hb7 with e | ⟨⟨⟨e1, e2⟩, e3⟩, e4⟩
                       · exact .inl e
                       · exact .inr ⟨e1, e2, e3, e4⟩
                     simp only [chosenE, hcl, if_false, ho, if_true])
                  | (have ho : outE d (nearE d s) s m = false := by
                       unfold outE oddE
                       rw [if_neg hb4, if_pos hb6]
                       refine Bool.eq_false_iff.2 fun e => ?_
                       simp only [Bool.or_eq_true, Bool.and_eq_true, decide_eq_true_eq] at e
                       simp only [nat_odd] at hb7
                       obtain ⟨q1, q2⟩ := hb7
                       rcases e with e | ⟨e1, e2, e3, e4⟩
                       · exact q1 e
                       · rcases q2 with ((q | q) | q) | q
                         · exact q e1
                         · exact q e2
                         · exact q e3
                         · exact q e4
                     simp only [chosenE, hcl, if_false, ho, Bool.false_eq_true])
                · cases hb11
              · try simp only [decide_eq_false_iff_not] at hb10
                -- region 22  law.go:153
                refine awp_rseq [3, 6, 7, 8, 13, 48, 95] (by rfl) fun K hK => ?_
                simp (decide := true) only [aOps_nil, ev, absV, absS, putD, Slots.put, Slots.get, Slots.keep, if_true, if_false, true_and, ↓ap_binOp, pop_binOp, pBinX_int, pI_eql, ↓ap_assign, pop_assign]
                repeat (with_reducible refine And.intro ?_ ?_; · first | trivial | omega | (intro hg; simp only [Bool.and_eq_true, Bool.or_eq_true, Bool.not_eq_true', Bool.and_eq_false_iff, Bool.or_eq_false_iff, Bool.not_eq_false', decide_eq_true_eq, decide_eq_false_iff_not, eqNil] at hg; omega) )
                apply hK; clear hK K
                refine awp_cond (b := _) rfl (fun hb12 => ?_) (fun hb12 => ?_)
                · try simp only [decide_eq_true_eq] at hb12
                  -- region 23  law.go:154
                  refine awp_r [6, 7, 8, 13] (by rfl) ?_
                  simp (decide := true) only [aOps_nil, ev, putD, Slots.put, Slots.get, Slots.keep, if_true, if_false, true_and, ↓ap_fieldAddr, pop_fieldAddr, fa28_0, ↓ap_loadL, apL_mk, pLoad_one ag4, ↓ap_unOp, pop_unOp, pU_not, ↓ap_assign, pop_assign, rd_ne', ne_eq, not_false_eq_true, ne_0q1_0q0.symm, ne_1q8_0q0.symm, ne_1q9_0q0.symm, rd_any, List.getD_cons_zero, Nat.zero_add, lv_bool, decA]
                  try simp (disch := omega) only [Int.tmod_eq_emod_of_nonneg, Int.tdiv_eq_ediv_of_nonneg, wrap_i64, wrap_u8]
                  repeat (with_reducible refine And.intro ?_ ?_; · first | trivial | omega | (intro hg; simp only [Bool.and_eq_true, Bool.or_eq_true, Bool.not_eq_true', Bool.and_eq_false_iff, Bool.or_eq_false_iff, Bool.not_eq_false', decide_eq_true_eq, decide_eq_false_iff_not, eqNil] at hg; omega) )
                  change Awp _ _ _ _ _ _ _
                  refine awp_seq ?_
                  -- region 26  law.go:158
                  refine awp_rseq [6, 7, 8, 104] (by rfl) fun K hK => ?_
                  simp (decide := true) only [aOps_nil, ev, putD, Slots.put, Slots.get, Slots.keep, if_true, if_false, true_and, ↓ap_move, pop_move]
                  repeat (with_reducible refine And.intro ?_ ?_; · first | trivial | omega | (intro hg; simp only [Bool.and_eq_true, Bool.or_eq_true, Bool.not_eq_true', Bool.and_eq_false_iff, Bool.or_eq_false_iff, Bool.not_eq_false', decide_eq_true_eq, decide_eq_false_iff_not, eqNil] at hg; omega) )
                  apply hK; clear hK K
                  refine awp_cond (b := _) rfl (fun hb13 => ?_) (fun hb13 => ?_)
                  · try simp only [Bool.not_eq_true'] at hb13
                    -- region 27  law.go:159
                    refine awp_rseq [6] (by rfl) fun K hK => ?_
                    simp (decide := true) only [ev, putD, Slots.put, Slots.get, if_true, if_false, true_and, ↓ap_loadL, apL_mk, pLoad_agg ag28 sz28, rd_any, cellsAt, List.getD_cons_zero, List.getD_cons_succ, Nat.zero_add, Nat.reduceAdd, lv_bool, lv_int, lv_str, allLive, Bool.and_true]
                    repeat (with_reducible refine And.intro ?_ ?_; · first | trivial | omega | (intro hg; simp only [Bool.and_eq_true, Bool.or_eq_true, Bool.not_eq_true', Bool.and_eq_false_iff, Bool.or_eq_false_iff, Bool.not_eq_false', decide_eq_true_eq, decide_eq_false_iff_not, eqNil] at hg; omega) )
                    refine aOps_store (by rfl) (by rfl) (by repeat (first | exact AHeap.set_same _ _ _ | assumption | refine (AHeap.set_ne _ _ (by first | assumption | exact Ne.symm (by assumption))).trans ?_)) sz28 (by rfl) (by rfl) (by first | exact Nat.le_refl _ | decide | (simp; done) | (simp; omega)) (Nat.zero_le _) (by rfl) ?_
                    simp only [AVal.cells]
                    simp (decide := true) only [aOps_nil, ev, putD, Slots.get, Slots.keep, if_true, if_false, setAt, List.set_cons_zero, List.set_cons_succ, Nat.zero_add, Nat.reduceAdd]
                    repeat (with_reducible refine And.intro ?_ ?_; · first | trivial | omega | (intro hg; simp only [Bool.and_eq_true, Bool.or_eq_true, Bool.not_eq_true', Bool.and_eq_false_iff, Bool.or_eq_false_iff, Bool.not_eq_false', decide_eq_true_eq, decide_eq_false_iff_not, eqNil] at hg; omega) )
                    apply hK; clear hK K
                    refine awp_ret ?_
                    try simp only [thenA_ret]
                    refine retA_ret h (by repeat (first | exact Sub.refl _ | refine Sub.trans_set ?_ (by assumption))) (?_) ?_
                    · simp (decide := true) only [resPre, resV_cell, Slots.get, if_true, and_true, resV_cell, pLoad_agg ag28 sz28, rd_set, cellsAt, List.getD_cons_zero, List.getD_cons_succ, Nat.zero_add, Nat.reduceAdd, lv_bool, lv_int, lv_str, allLive, Bool.and_true, cellsAt, List.getD_cons_zero, List.getD_cons_succ, Nat.zero_add, Nat.reduceAdd, lv_bool, lv_int, lv_str, allLive, Bool.and_true]
                    
                    simp (decide := true) only [Slots.get, if_true, and_true, resOfG_one, resV_cell, pLoad_agg ag28 sz28, rd_set, cellsAt, List.getD_cons_zero, List.getD_cons_succ, Nat.zero_add, Nat.reduceAdd, lv_bool, lv_int, lv_str, allLive, Bool.and_true, cellsAt, List.getD_cons_zero, List.getD_cons_succ, Nat.zero_add, Nat.reduceAdd, lv_bool, lv_int, lv_str, allLive, Bool.and_true]
                    have hcl : lostB d s = false ↔ False := by rw [hb1]; decide
                    clear v1 v2 v3 hH hA hv hd0 la ll ln lne lpos l200 hl hb1 hb3
                    first
                    | (simp [chosenE, outE, *]; done)
                    | (have ho : outE d (nearE d s) s m = true := by
                         unfold outE oddE
                         rw [if_neg hb4, if_pos hb6]
                         simp only [Bool.or_eq_true, Bool.and_eq_true, decide_eq_true_eq]
                         simp only [nat_odd] at hb7
                         rcases hb7 with e | ⟨⟨⟨e1, e2⟩, e3⟩, e4⟩
                         · exact .inl e
                         · exact .inr ⟨e1, e2, e3, e4⟩
                       simp only [chosenE, hcl, if_false, ho, if_true])
                    | (have ho : outE d (nearE d s) s m = false := by
                         unfold outE oddE
                         rw [if_neg hb4, if_pos hb6]
                         refine Bool.eq_false_iff.2 fun e => ?_
                         simp only [Bool.or_eq_true, Bool.and_eq_true, decide_eq_true_eq] at e
                         simp only [nat_odd] at hb7
                         obtain ⟨q1, q2⟩ := hb7
                         rcases e with e | ⟨e1, e2, e3, e4⟩
                         · exact q1 e
                         · rcases q2 with ((q | q) | q) | q
                           · exact q e1
                           · exact q e2
                           · exact q e3
                           · exact q e4
                       simp only [chosenE, hcl, if_false, ho, Bool.false_eq_true])
                  · try simp only [Bool.not_eq_false'] at hb13
                    refine awp_skip ?_
                    change Awp _ _ _ _ _ _ _
                    -- region 28  law.go:161
                    refine awp_rseq [6] (by rfl) fun K hK => ?_
                    simp (decide := true) only [ev, putD, Slots.put, Slots.get, if_true, if_false, true_and, ↓ap_loadL, apL_mk, pLoad_agg ag28 sz28, rd_ne', ne_eq, not_false_eq_true, ne_1q9_1q8.symm, rd_any, cellsAt, List.getD_cons_zero, List.getD_cons_succ, Nat.zero_add, Nat.reduceAdd, lv_bool, lv_int, lv_str, allLive, Bool.and_true]
                    repeat (with_reducible refine And.intro ?_ ?_; · first | trivial | omega | (intro hg; simp only [Bool.and_eq_true, Bool.or_eq_true, Bool.not_eq_true', Bool.and_eq_false_iff, Bool.or_eq_false_iff, Bool.not_eq_false', decide_eq_true_eq, decide_eq_false_iff_not, eqNil] at hg; omega) )
                    refine aOps_store (by rfl) (by rfl) (by repeat (first | exact AHeap.set_same _ _ _ | assumption | refine (AHeap.set_ne _ _ (by first | assumption | exact Ne.symm (by assumption))).trans ?_)) sz28 (by rfl) (by rfl) (by first | exact Nat.le_refl _ | decide | (simp; done) | (simp; omega)) (Nat.zero_le _) (by rfl) ?_
                    simp only [AVal.cells]
                    simp (decide := true) only [aOps_nil, ev, putD, Slots.get, Slots.keep, if_true, if_false, setAt, List.set_cons_zero, List.set_cons_succ, Nat.zero_add, Nat.reduceAdd]
                    repeat (with_reducible refine And.intro ?_ ?_; · first | trivial | omega | (intro hg; simp only [Bool.and_eq_true, Bool.or_eq_true, Bool.not_eq_true', Bool.and_eq_false_iff, Bool.or_eq_false_iff, Bool.not_eq_false', decide_eq_true_eq, decide_eq_false_iff_not, eqNil] at hg; omega) )
                    apply hK; clear hK K
                    refine awp_ret ?_
                    try simp only [thenA_ret, inBlockA_ret]
                    refine retA_ret h (by repeat (first | exact Sub.refl _ | refine Sub.trans_set ?_ (by assumption))) (?_) ?_
                    · simp (decide := true) only [resPre, resV_cell, Slots.get, if_true, and_true, resV_cell, pLoad_agg ag28 sz28, rd_set, cellsAt, List.getD_cons_zero, List.getD_cons_succ, Nat.zero_add, Nat.reduceAdd, lv_bool, lv_int, lv_str, allLive, Bool.and_true, cellsAt, List.getD_cons_zero, List.getD_cons_succ, Nat.zero_add, Nat.reduceAdd, lv_bool, lv_int, lv_str, allLive, Bool.and_true]
                    
                    simp (decide := true) only [Slots.get, if_true, and_true, resOfG_one, resV_cell, pLoad_agg ag28 sz28, rd_set, cellsAt, List.getD_cons_zero, List.getD_cons_succ, Nat.zero_add, Nat.reduceAdd, lv_bool, lv_int, lv_str, allLive, Bool.and_true, cellsAt, List.getD_cons_zero, List.getD_cons_succ, Nat.zero_add, Nat.reduceAdd, lv_bool, lv_int, lv_str, allLive, Bool.and_true]
                    have hcl : lostB d s = false ↔ False := by rw [hb1]; decide
                    clear v1 v2 v3 hH hA hv hd0 la ll ln lne lpos l200 hl hb1 hb3
                    first
                    | (simp [chosenE, outE, *]; done)
                    | (have ho : outE d (nearE d s) s m = true := by
                         unfold outE oddE
                         rw [if_neg hb4, if_pos hb6]
                         simp only [Bool.or_eq_true, Bool.and_eq_true, decide_eq_true_eq]
                         simp only [nat_odd] at hb7
                         rcases hb7 with e | ⟨⟨⟨e1, e2⟩, e3⟩, e4⟩
                         · exact .inl e
                         · exact .inr ⟨e1, e2, e3, e4⟩
                       simp only [chosenE, hcl, if_false, ho, if_true])
                    | (have ho : outE d (nearE d s) s m = false := by
                         unfold outE oddE
                         rw [if_neg hb4, if_pos hb6]
                         refine Bool.eq_false_iff.2 fun e => ?_
                         simp only [Bool.or_eq_true, Bool.and_eq_true, decide_eq_true_eq] at e
                         simp only [nat_odd] at hb7
                         obtain ⟨q1, q2⟩ := hb7
                         rcases e with e | ⟨e1, e2, e3, e4⟩
                         · exact q1 e
                         · rcases q2 with ((q | q) | q) | q
                           · exact q e1
                           · exact q e2
                           · exact q e3
                           · exact q e4
                       simp only [chosenE, hcl, if_false, ho, Bool.false_eq_true])
                · try simp only [decide_eq_false_iff_not] at hb12
                  -- region 24  law.go:155
                  refine awp_rseq [3, 6, 7, 8, 13, 100] (by rfl) fun K hK => ?_
                  simp (decide := true) only [aOps_nil, ev, absV, absS, putD, Slots.put, Slots.get, Slots.keep, if_true, if_false, true_and, ↓ap_binOp, pop_binOp, pBinX_int, pI_eql, ↓ap_assign, pop_assign]
                  repeat (with_reducible refine And.intro ?_ ?_; · first | trivial | omega | (intro hg; simp only [Bool.and_eq_true, Bool.or_eq_true, Bool.not_eq_true', Bool.and_eq_false_iff, Bool.or_eq_false_iff, Bool.not_eq_false', decide_eq_true_eq, decide_eq_false_iff_not, eqNil] at hg; omega) )
                  apply hK; clear hK K
                  refine awp_cond (b := _) rfl (fun hb14 => ?_) (fun hb14 => ?_)
                  · try simp only [decide_eq_true_eq] at hb14
                    -- region 25  law.go:156
                    refine awp_r [6, 7, 8, 13] (by rfl) ?_
                    simp (decide := true) only [aOps_nil, ev, putD, Slots.put, Slots.get, Slots.keep, if_true, if_false, true_and, ↓ap_fieldAddr, pop_fieldAddr, fa28_0, ↓ap_loadL, apL_mk, pLoad_one ag4, ↓ap_assign, pop_assign, rd_ne', ne_eq, not_false_eq_true, ne_0q1_0q0.symm, ne_1q8_0q0.symm, ne_1q9_0q0.symm, rd_any, List.getD_cons_zero, Nat.zero_add, lv_bool, decA]
                    repeat (with_reducible refine And.intro ?_ ?_; · first | trivial | omega | (intro hg; simp only [Bool.and_eq_true, Bool.or_eq_true, Bool.not_eq_true', Bool.and_eq_false_iff, Bool.or_eq_false_iff, Bool.not_eq_false', decide_eq_true_eq, decide_eq_false_iff_not, eqNil] at hg; omega) )
                    change Awp _ _ _ _ _ _ _
                    refine awp_seq ?_
                    -- region 26  law.go:158
                    refine awp_rseq [6, 7, 8, 104] (by rfl) fun K hK => ?_
                    simp (decide := true) only [aOps_nil, ev, putD, Slots.put, Slots.get, Slots.keep, if_true, if_false, true_and, ↓ap_move, pop_move]
                    repeat (with_reducible refine And.intro ?_ ?_; · first | trivial | omega | (intro hg; simp only [Bool.and_eq_true, Bool.or_eq_true, Bool.not_eq_true', Bool.and_eq_false_iff, Bool.or_eq_false_iff, Bool.not_eq_false', decide_eq_true_eq, decide_eq_false_iff_not, eqNil] at hg; omega) )
                    apply hK; clear hK K
                    refine awp_cond (b := _) rfl (fun hb15 => ?_) (fun hb15 => ?_)
                    · try simp only [decide_eq_true_eq, decide_eq_false_iff_not, Bool.not_eq_true', Bool.not_eq_false', Bool.and_eq_true, Bool.and_eq_false_iff, Bool.or_eq_true, Bool.or_eq_false_iff, Bool.true_eq, Bool.false_eq, reduceCtorEq] at hb15
                      -- region 27  law.go:159
                      refine awp_rseq [6] (by rfl) fun K hK => ?_
                      simp (decide := true) only [ev, putD, Slots.put, Slots.get, if_true, if_false, true_and, ↓ap_loadL, apL_mk, pLoad_agg ag28 sz28, rd_any, cellsAt, List.getD_cons_zero, List.getD_cons_succ, Nat.zero_add, Nat.reduceAdd, lv_bool, lv_int, lv_str, allLive, Bool.and_true]
                      repeat (with_reducible refine And.intro ?_ ?_; · first | trivial | omega | (intro hg; simp only [Bool.and_eq_true, Bool.or_eq_true, Bool.not_eq_true', Bool.and_eq_false_iff, Bool.or_eq_false_iff, Bool.not_eq_false', decide_eq_true_eq, decide_eq_false_iff_not, eqNil] at hg; omega) )
                      refine aOps_store (by rfl) (by rfl) (by repeat (first | exact AHeap.set_same _ _ _ | assumption | refine (AHeap.set_ne _ _ (by first | assumption | exact Ne.symm (by assumption))).trans ?_)) sz28 (by rfl) (by rfl) (by first | exact Nat.le_refl _ | decide | (simp; done) | (simp; omega)) (Nat.zero_le _) (by rfl) ?_
                      simp only [AVal.cells]
                      simp (decide := true) only [aOps_nil, ev, putD, Slots.get, Slots.keep, if_true, if_false, setAt, List.set_cons_zero, List.set_cons_succ, Nat.zero_add, Nat.reduceAdd]
                      repeat (with_reducible refine And.intro ?_ ?_; · first | trivial | omega | (intro hg; simp only [Bool.and_eq_true, Bool.or_eq_true, Bool.not_eq_true', Bool.and_eq_false_iff, Bool.or_eq_false_iff, Bool.not_eq_false', decide_eq_true_eq, decide_eq_false_iff_not, eqNil] at hg; omega) )
                      apply hK; clear hK K
                      refine awp_ret ?_
                      try simp only [thenA_ret]
                      refine retA_ret h (by repeat (first | exact Sub.refl _ | refine Sub.trans_set ?_ (by assumption))) (?_) ?_
                      · simp (decide := true) only [resPre, resV_cell, Slots.get, if_true, and_true, resV_cell, pLoad_agg ag28 sz28, rd_set, cellsAt, List.getD_cons_zero, List.getD_cons_succ, Nat.zero_add, Nat.reduceAdd, lv_bool, lv_int, lv_str, allLive, Bool.and_true, cellsAt, List.getD_cons_zero, List.getD_cons_succ, Nat.zero_add, Nat.reduceAdd, lv_bool, lv_int, lv_str, allLive, Bool.and_true]
                      
                      simp (decide := true) only [Slots.get, if_true, and_true, resOfG_one, resV_cell, pLoad_agg ag28 sz28, rd_set, cellsAt, List.getD_cons_zero, List.getD_cons_succ, Nat.zero_add, Nat.reduceAdd, lv_bool, lv_int, lv_str, allLive, Bool.and_true, cellsAt, List.getD_cons_zero, List.getD_cons_succ, Nat.zero_add, Nat.reduceAdd, lv_bool, lv_int, lv_str, allLive, Bool.and_true]
                      have hcl : lostB d s = false ↔ False := by rw [hb1]; decide
                      clear v1 v2 v3 hH hA hv hd0 la ll ln lne lpos l200 hl hb1 hb3
                      first
                      | (simp [chosenE, outE, *]; done)
                      | (have ho : outE d (nearE d s) s m = true := by
                           unfold outE oddE
                           rw [if_neg hb4, if_pos hb6]
                           simp only [Bool.or_eq_true, Bool.and_eq_true, decide_eq_true_eq]
                           simp only [nat_odd] at hb7
                           rcases hb7 with e | ⟨⟨⟨e1, e2⟩, e3⟩, e4⟩
                           · exact .inl e
                           · exact .inr ⟨e1, e2, e3, e4⟩
                         simp only [chosenE, hcl, if_false, ho, if_true])
                      | (have ho : outE d (nearE d s) s m = false := by
                           unfold outE oddE
                           rw [if_neg hb4, if_pos hb6]
                           refine Bool.eq_false_iff.2 fun e => ?_
                           simp only [Bool.or_eq_true, Bool.and_eq_true, decide_eq_true_eq] at e
                           simp only [nat_odd] at hb7
                           obtain ⟨q1, q2⟩ := hb7
                           rcases e with e | ⟨e1, e2, e3, e4⟩
                           · exact q1 e
                           · rcases q2 with ((q | q) | q) | q
                             · exact q e1
                             · exact q e2
                             · exact q e3
                             · exact q e4
                         simp only [chosenE, hcl, if_false, ho, Bool.false_eq_true])
                    · try simp only [decide_eq_true_eq, decide_eq_false_iff_not, Bool.not_eq_true', Bool.not_eq_false', Bool.and_eq_true, Bool.and_eq_false_iff, Bool.or_eq_true, Bool.or_eq_false_iff, Bool.true_eq, Bool.false_eq, reduceCtorEq] at hb15
                      refine awp_skip ?_
                      change Awp _ _ _ _ _ _ _
                      -- region 28  law.go:161
                      refine awp_rseq [6] (by rfl) fun K hK => ?_
                      simp (decide := true) only [ev, putD, Slots.put, Slots.get, if_true, if_false, true_and, ↓ap_loadL, apL_mk, pLoad_agg ag28 sz28, rd_ne', ne_eq, not_false_eq_true, ne_1q9_1q8.symm, rd_any, cellsAt, List.getD_cons_zero, List.getD_cons_succ, Nat.zero_add, Nat.reduceAdd, lv_bool, lv_int, lv_str, allLive, Bool.and_true]
                      repeat (with_reducible refine And.intro ?_ ?_; · first | trivial | omega | (intro hg; simp only [Bool.and_eq_true, Bool.or_eq_true, Bool.not_eq_true', Bool.and_eq_false_iff, Bool.or_eq_false_iff, Bool.not_eq_false', decide_eq_true_eq, decide_eq_false_iff_not, eqNil] at hg; omega) )
                      refine aOps_store (by rfl) (by rfl) (by repeat (first | exact AHeap.set_same _ _ _ | assumption | refine (AHeap.set_ne _ _ (by first | assumption | exact Ne.symm (by assumption))).trans ?_)) sz28 (by rfl) (by rfl) (by first | exact Nat.le_refl _ | decide | (simp; done) | (simp; omega)) (Nat.zero_le _) (by rfl) ?_
                      simp only [AVal.cells]
                      simp (decide := true) only [aOps_nil, ev, putD, Slots.get, Slots.keep, if_true, if_false, setAt, List.set_cons_zero, List.set_cons_succ, Nat.zero_add, Nat.reduceAdd]
                      repeat (with_reducible refine And.intro ?_ ?_; · first | trivial | omega | (intro hg; simp only [Bool.and_eq_true, Bool.or_eq_true, Bool.not_eq_true', Bool.and_eq_false_iff, Bool.or_eq_false_iff, Bool.not_eq_false', decide_eq_true_eq, decide_eq_false_iff_not, eqNil] at hg; omega) )
                      apply hK; clear hK K
                      refine awp_ret ?_
                      try simp only [thenA_ret, inBlockA_ret]
                      refine retA_ret h (by repeat (first | exact Sub.refl _ | refine Sub.trans_set ?_ (by assumption))) (?_) ?_
                      · simp (decide := true) only [resPre, resV_cell, Slots.get, if_true, and_true, resV_cell, pLoad_agg ag28 sz28, rd_set, cellsAt, List.getD_cons_zero, List.getD_cons_succ, Nat.zero_add, Nat.reduceAdd, lv_bool, lv_int, lv_str, allLive, Bool.and_true, cellsAt, List.getD_cons_zero, List.getD_cons_succ, Nat.zero_add, Nat.reduceAdd, lv_bool, lv_int, lv_str, allLive, Bool.and_true]
                      
                      simp (decide := true) only [Slots.get, if_true, and_true, resOfG_one, resV_cell, pLoad_agg ag28 sz28, rd_set, cellsAt, List.getD_cons_zero, List.getD_cons_succ, Nat.zero_add, Nat.reduceAdd, lv_bool, lv_int, lv_str, allLive, Bool.and_true, cellsAt, List.getD_cons_zero, List.getD_cons_succ, Nat.zero_add, Nat.reduceAdd, lv_bool, lv_int, lv_str, allLive, Bool.and_true]
                      have hcl : lostB d s = false ↔ False := by rw [hb1]; decide
                      clear v1 v2 v3 hH hA hv hd0 la ll ln lne lpos l200 hl hb1 hb3
                      first
                      | (simp [chosenE, outE, *]; done)
                      | (have ho : outE d (nearE d s) s m = true := by
                           unfold outE oddE
                           rw [if_neg hb4, if_pos hb6]
                           simp only [Bool.or_eq_true, Bool.and_eq_true, decide_eq_true_eq]
                           simp only [nat_odd] at hb7
                           rcases hb7 with e | ⟨⟨⟨e1, e2⟩, e3⟩, e4⟩
                           · exact .inl e
                           · exact .inr ⟨e1, e2, e3, e4⟩
                         simp only [chosenE, hcl, if_false, ho, if_true])
                      | (have ho : outE d (nearE d s) s m = false := by
                           unfold outE oddE
                           rw [if_neg hb4, if_pos hb6]
                           refine Bool.eq_false_iff.2 fun e => ?_
                           simp only [Bool.or_eq_true, Bool.and_eq_true, decide_eq_true_eq] at e
                           simp only [nat_odd] at hb7
                           obtain ⟨q1, q2⟩ := hb7
                           rcases e with e | ⟨e1, e2, e3, e4⟩
                           · exact q1 e
                           · rcases q2 with ((q | q) | q) | q
                             · exact q e1
                             · exact q e2
                             · exact q e3
                             · exact q e4
                         simp only [chosenE, hcl, if_false, ho, Bool.false_eq_true])
                  · try simp only [decide_eq_false_iff_not] at hb14
                    refine awp_skip ?_
                    change Awp _ _ _ _ _ _ _
                    refine awp_seq ?_
                    -- region 26  law.go:158
                    refine awp_rseq [6, 7, 8, 104] (by rfl) fun K hK => ?_
                    simp (decide := true) only [aOps_nil, ev, putD, Slots.put, Slots.get, Slots.keep, if_true, if_false, true_and, ↓ap_move, pop_move]
                    repeat (with_reducible refine And.intro ?_ ?_; · first | trivial | omega | (intro hg; simp only [Bool.and_eq_true, Bool.or_eq_true, Bool.not_eq_true', Bool.and_eq_false_iff, Bool.or_eq_false_iff, Bool.not_eq_false', decide_eq_true_eq, decide_eq_false_iff_not, eqNil] at hg; omega) )
                    apply hK; clear hK K
                    refine awp_cond (b := _) rfl (fun hb16 => ?_) (fun hb16 => ?_)
                    · cases hb16
                    · try simp only at hb16
                      refine awp_skip ?_
                      change Awp _ _ _ _ _ _ _
                      -- region 28  law.go:161
                      refine awp_rseq [6] (by rfl) fun K hK => ?_
                      simp (decide := true) only [ev, putD, Slots.put, Slots.get, if_true, if_false, true_and, ↓ap_loadL, apL_mk, pLoad_agg ag28 sz28, rd_ne', ne_eq, not_false_eq_true, ne_1q9_1q8.symm, rd_any, cellsAt, List.getD_cons_zero, List.getD_cons_succ, Nat.zero_add, Nat.reduceAdd, lv_bool, lv_int, lv_str, allLive, Bool.and_true]
                      repeat (with_reducible refine And.intro ?_ ?_; · first | trivial | omega | (intro hg; simp only [Bool.and_eq_true, Bool.or_eq_true, Bool.not_eq_true', Bool.and_eq_false_iff, Bool.or_eq_false_iff, Bool.not_eq_false', decide_eq_true_eq, decide_eq_false_iff_not, eqNil] at hg; omega) )
                      refine aOps_store (by rfl) (by rfl) (by repeat (first | exact AHeap.set_same _ _ _ | assumption | refine (AHeap.set_ne _ _ (by first | assumption | exact Ne.symm (by assumption))).trans ?_)) sz28 (by rfl) (by rfl) (by first | exact Nat.le_refl _ | decide | (simp; done) | (simp; omega)) (Nat.zero_le _) (by rfl) ?_
                      simp only [AVal.cells]
                      simp (decide := true) only [aOps_nil, ev, putD, Slots.get, Slots.keep, if_true, if_false, setAt, List.set_cons_zero, List.set_cons_succ, Nat.zero_add, Nat.reduceAdd]
                      repeat (with_reducible refine And.intro ?_ ?_; · first | trivial | omega | (intro hg; simp only [Bool.and_eq_true, Bool.or_eq_true, Bool.not_eq_true', Bool.and_eq_false_iff, Bool.or_eq_false_iff, Bool.not_eq_false', decide_eq_true_eq, decide_eq_false_iff_not, eqNil] at hg; omega) )
                      apply hK; clear hK K
                      refine awp_ret ?_
                      try simp only [thenA_ret, inBlockA_ret]
                      refine retA_ret h (by repeat (first | exact Sub.refl _ | refine Sub.trans_set ?_ (by assumption))) (?_) ?_
                      · simp (decide := true) only [resPre, resV_cell, Slots.get, if_true, and_true, resV_cell, pLoad_agg ag28 sz28, rd_set, cellsAt, List.getD_cons_zero, List.getD_cons_succ, Nat.zero_add, Nat.reduceAdd, lv_bool, lv_int, lv_str, allLive, Bool.and_true, cellsAt, List.getD_cons_zero, List.getD_cons_succ, Nat.zero_add, Nat.reduceAdd, lv_bool, lv_int, lv_str, allLive, Bool.and_true]
                      
                      simp (decide := true) only [Slots.get, if_true, and_true, resOfG_one, resV_cell, pLoad_agg ag28 sz28, rd_set, cellsAt, List.getD_cons_zero, List.getD_cons_succ, Nat.zero_add, Nat.reduceAdd, lv_bool, lv_int, lv_str, allLive, Bool.and_true, cellsAt, List.getD_cons_zero, List.getD_cons_succ, Nat.zero_add, Nat.reduceAdd, lv_bool, lv_int, lv_str, allLive, Bool.and_true, decA]
                      have hcl : lostB d s = false ↔ False := by rw [hb1]; decide
                      clear v1 v2 v3 hH hA hv hd0 la ll ln lne lpos l200 hl hb1 hb3
                      first
                      | (simp [chosenE, outE, *]; done)
                      | (have ho : outE d (nearE d s) s m = true := by
                           unfold outE oddE
                           rw [if_neg hb4, if_pos hb6]
                           simp only [Bool.or_eq_true, Bool.and_eq_true, decide_eq_true_eq]
                           simp only [nat_odd] at hb7
                           rcases hb7 with e | ⟨⟨⟨e1, e2⟩, e3⟩, e4⟩
                           · exact .inl e
                           · exact .inr ⟨e1, e2, e3, e4⟩
                         simp only [chosenE, hcl, if_false, ho, if_true])
                      | (have ho : outE d (nearE d s) s m = false := by
                           unfold outE oddE
                           rw [if_neg hb4, if_pos hb6]
                           refine Bool.eq_false_iff.2 fun e => ?_
                           simp only [Bool.or_eq_true, Bool.and_eq_true, decide_eq_true_eq] at e
                           simp only [nat_odd] at hb7
                           obtain ⟨q1, q2⟩ := hb7
                           rcases e with e | ⟨e1, e2, e3, e4⟩
                           · exact q1 e
                           · rcases q2 with ((q | q) | q) | q
                             · exact q e1
                             · exact q e2
                             · exact q e3
                             · exact q e4
                         simp only [chosenE, hcl, if_false, ho, Bool.false_eq_true])
end Go.Proofs.YtnaioficflbioaaDoor
