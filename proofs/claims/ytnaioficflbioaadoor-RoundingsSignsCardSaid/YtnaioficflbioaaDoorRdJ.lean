/-
  The statement RoundingsSigns, walked: a changed sign is kept by the rounding, Greater and Lesser exchanged.
  Conditions: none.
-/
import Derived.Test.YtnaioficflbioaaDoorRdI
set_option linter.unnecessarySimpa false
set_option linter.unusedSimpArgs false
set_option linter.unusedVariables false
namespace Go.Proofs.YtnaioficflbioaaDoor
open Go.AM
open Go.Proofs
open Go.Dec
open Go.Lib (decDigits)
set_option maxRecDepth 100000

def swM (m : Int) : Int := if m = 5 then 6 else if m = 6 then 5 else m
theorem dig_zero (neg : Bool) (n k : Nat) : decide ((canon neg n k).dig = [48]) = decide (n = 0) := by
  obtain ⟨h1, _, _⟩ := natOf_canon neg n k
  by_cases hn : n = 0
  · subst hn; rfl
  · rw [decide_eq_false hn, decide_eq_false]
    intro e
    rw [e, if_neg hn] at h1
    have hp := strip_pos k n (by omega)
    have : natOf [48] = 0 := by decide
    omega
theorem other_canon (neg : Bool) (n k : Nat) : otherD (canon neg n k) = canon (!neg) n k := by
  rw [otherD, dig_zero]
  obtain ⟨_, _, h3⟩ := natOf_canon neg n k
  rw [h3]
  by_cases hn : n = 0
  · subst hn; rfl
  · rw [if_neg hn, decide_eq_false hn, Bool.not_false, Bool.and_true]
    unfold canon
    rw [if_neg hn, if_neg hn]
theorem check_other {d : D} (h : checkE d = 0) : checkE (otherD d) = 0 := by
  obtain ⟨e, hl⟩ := val_canon h
  have hl' : long (otherD d) ≤ 62 := hl
  rw [e, other_canon] at hl' ⊢
  exact check_canon _ _ _ hl'
theorem other_twice {d : D} (h : checkE d = 0) : otherD (otherD d) = d := by
  obtain ⟨e, _⟩ := val_canon h
  rw [e, other_canon, other_canon, Bool.not_not]
theorem other_neg {d : D} {s : Int} (h : lostB d s = true) : (otherD d).neg = !d.neg := by
  have : decide (d.dig = [48]) = false := by
    rw [decide_eq_false]
    intro e
    have hz : lostN d s = 0 := by rw [lostN, e, show natOf [48] = 0 by decide, Nat.zero_mod]
    unfold lostB at h
    rw [hz] at h
    simp at h
  rw [otherD, this]
  simp
theorem out_other {d near : D} {s : Int} (h : lostB d s = true) (m : Int) : outE (otherD d) (otherD near) s (swM m) = outE d near s m := by
  have e1 : halfN (otherD d) s = halfN d s := rfl
  have e2 : oddE (otherD near) s = oddE near s := rfl
  have e3 := other_neg h
  unfold outE
  rw [e1, e2, e3]
  unfold swM
  by_cases c5 : m = 5
  · subst c5; rfl
  · by_cases c6 : m = 6
    · subst c6; simp
    · rw [if_neg c5, if_neg c6]
      simp only [if_neg c5, if_neg c6]
theorem chosen_other {d : D} {s : Int} (h : lostB d s = true) (m : Int) : chosenE (otherD d) s (swM m) = otherD (chosenE d s m) := by
  have h' : lostB (otherD d) s = true := h
  have n1 : nearE (otherD d) s = otherD (nearE d s) := by
    rw [nearE, nearE, if_pos h, if_pos h', other_neg h]
    unfold stepsD
    rw [other_canon]
    rfl
  have f1 : farE (otherD d) s = otherD (farE d s) := by
    rw [farE, farE, if_pos h, if_pos h', other_neg h]
    unfold stepsD
    rw [other_canon]
    rfl
  unfold chosenE
  rw [if_neg (show ¬lostB (otherD d) s = false by rw [h']; decide), if_neg (show ¬lostB d s = false by rw [h]; decide), n1, f1, out_other h]
  split <;> rfl
theorem round_other {d : D} (hv : checkE d = 0) (s m : Int) (s0 : -62 ≤ s) (s1 : s ≤ 62) (m0 : 0 ≤ m) (m7 : m ≤ 7) :
    ∃ c c' e, roundE d s m = (c, e) ∧ roundE (otherD d) s (swM m) = (c', e) ∧ (e = 0 → checkE c' = 0 ∧ otherD c' = c) ∧ c'.dig.length ≤ 9223372036854775807 := by
  have hs7 : swM m ≤ 7 := by unfold swM; split <;> (try split) <;> omega
  have r1 := roundE_val hv s m s0 s1 m7
  have r2 := roundE_val (check_other hv) s (swM m) s0 s1 hs7
  cases hb : lostB d s with
  | false =>
    have hb' : lostB (otherD d) s = false := hb
    rw [if_pos hb] at r1
    rw [if_pos hb'] at r2
    exact ⟨_, _, _, r1, r2, fun _ => ⟨check_other hv, other_twice hv⟩, check_len (check_other hv)⟩
  | true =>
    have hb' : lostB (otherD d) s = true := hb
    rw [if_neg (by rw [hb]; decide)] at r1
    rw [if_neg (by rw [hb']; decide)] at r2
    by_cases c7 : m = 7
    · have c7' : swM m = 7 := by subst c7; rfl
      rw [if_pos c7] at r1
      rw [if_pos c7'] at r2
      exact ⟨_, _, _, r1, r2, fun h => absurd h (by decide), by decide⟩
    · have c7' : ¬swM m = 7 := by unfold swM; split <;> (try split) <;> omega
      rw [if_neg c7] at r1
      rw [if_neg c7', chosen_other hb] at r2
      obtain ⟨w, e⟩ := chosen_form s m hb
      by_cases hl : 62 < long (chosenE d s m)
      · have hl' : 62 < long (otherD (chosenE d s m)) := hl
        rw [resE_long hl] at r1
        rw [resE_long hl'] at r2
        exact ⟨_, _, _, r1, r2, fun h => absurd h (by decide), by decide⟩
      · have hl' : ¬62 < long (otherD (chosenE d s m)) := hl
        have hc : checkE (chosenE d s m) = 0 := by
          rw [e] at hl ⊢
          exact check_canon _ _ _ (by unfold stepsD at hl; omega)
        rw [resE_ok hl] at r1
        rw [resE_ok hl'] at r2
        exact ⟨_, _, _, r1, r2, fun _ => ⟨check_other hc, other_twice hc⟩, check_len (check_other hc)⟩

set_option maxHeartbeats 2000000 in
theorem l_RoundingsSigns (w₀ : World) (ht : Tab10 w₀) (h : AHeap) (neg : Bool) (v : AVal) (bs : List UInt8) (sc : UInt8) (hb : IsB w₀ h v bs) (hl : bs.length ≤ 9223372036854775807) (a b : UInt8) (m : UInt8) :
    ACall Tryd.prog w₀ 6 [.agg [.bool neg, v, .int .u8 sc.toNat], .agg [.int .u8 a.toNat, .int .u8 b.toNat], .int .u8 m.toNat] h (fun x _ => x = .bool true) := by
  refine ACall.mono (R := fun x h' => x = .bool true ∧ h' = h) ?_ fun x h' hx => hx.1
  have hlv := hb.live
  have hm := m.toNat_lt
  obtain ⟨d, hd⟩ : ∃ d, d = ofN neg bs sc := ⟨_, rfl⟩
  have hv : checkE d = 0 := by rw [hd]; exact ofN_check _ _ _
  have hdl := check_len hv
  obtain ⟨s, hs⟩ : ∃ s, s = gSc b := ⟨_, rfl⟩
  obtain ⟨s0, s1⟩ : -62 ≤ s ∧ s ≤ 62 := by rw [hs]; exact gSc_bound b
  obtain ⟨mm, hmm⟩ : ∃ mm : Int, mm = (m.toNat : Int) % 8 := ⟨_, rfl⟩
  have mm0 : 0 ≤ mm ∧ mm ≤ 7 := by omega
  have sw0 : 0 ≤ swM mm := by unfold swM; split <;> (try split) <;> omega
  obtain ⟨c, c', e, hr, hr', hce, hcl⟩ := round_other hv s mm s0 s1 mm0.1 mm0.2
  refine acall_intro (n := 78) (rs := [.tmp 6]) Tryd.func6 rfl rfl rfl rfl (Nat.le_of_ble_eq_true rfl) ?_
  simp only [initSlots]
  -- region 0  law.go:188
  refine awp_rseq [2, 3, 4] (by rfl) fun K hK => ?_
  refine aOps_box (by rfl) (by rfl) (by rfl) fun k0q0 hk0q0 => ?_
  try have hf_0q0 : h k0q0 = none := by first | assumption | (simp only [AHeap.set_none] at hk0q0; simp only [hk0q0])
  skip
  refine aOps_box (by rfl) (by rfl) (by rfl) fun k0q1 hk0q1 => ?_
  have ne_0q1_0q0 : k0q1 ≠ k0q0 := by simp only [AHeap.set_none] at hk0q1; simp only [hk0q1, ne_eq, not_false_eq_true]
  try have hf_0q1 : h k0q1 = none := by first | assumption | (simp only [AHeap.set_none] at hk0q1; simp only [hk0q1])
  skip
  simp (decide := true) only [aOps_nil, ev, absV, absS, putD, Slots.put, Slots.get, Slots.keep, if_true, if_false, true_and, ↓ap_assign, pop_assign, AVal.cells, Nat.zero_add, Nat.reduceAdd]
  repeat (with_reducible refine And.intro ?_ ?_; · first | trivial | omega | (intro hg; simp only [Bool.and_eq_true, Bool.or_eq_true, Bool.not_eq_true', Bool.and_eq_false_iff, Bool.or_eq_false_iff, Bool.not_eq_false', decide_eq_true_eq, decide_eq_false_iff_not, eqNil] at hg; omega))
  apply hK; clear hK K
  -- region 1  law.go:189
  refine awp_rseq [2, 4, 7] (by rfl) fun K hK => ?_
  simp (decide := true) only [ev, putD, Slots.put, Slots.get, if_true, if_false, true_and, ↓ap_loadL, apL_mk, pLoad_agg ag24 sz24, rd_ne', ne_eq, not_false_eq_true, ne_0q1_0q0.symm, rd_any, cellsAt, List.getD_cons_zero, List.getD_cons_succ, Nat.zero_add, Nat.reduceAdd, lv_bool, lv_int, allLive, Bool.and_true, hlv]
  repeat (with_reducible refine And.intro ?_ ?_; · first | trivial | omega | (intro hg; simp only [Bool.and_eq_true, Bool.or_eq_true, Bool.not_eq_true', Bool.and_eq_false_iff, Bool.or_eq_false_iff, Bool.not_eq_false', decide_eq_true_eq, decide_eq_false_iff_not, eqNil] at hg; omega))
  refine aOps_callV (V := decA d) (by rfl) (by rfl) ((c_ofN w₀ _ neg v bs sc (hb.mono (by repeat (first | exact Sub.refl _ | refine Sub.trans_set ?_ (by assumption)))) hl).val (by rw [hd])) ?_
  refine aOps_alloc ze28 (cs := [.bool false, .str [], .int .i64 0]) (by rfl) fun k1q2 hk1q2 => ?_
  have ne_1q2_0q0 : k1q2 ≠ k0q0 := by simp only [AHeap.set_none] at hk1q2; simp only [hk1q2, ne_eq, not_false_eq_true]
  have ne_1q2_0q1 : k1q2 ≠ k0q1 := by simp only [AHeap.set_none] at hk1q2; simp only [hk1q2, ne_eq, not_false_eq_true]
  try have hf_1q2 : h k1q2 = none := by first | assumption | (simp only [AHeap.set_none] at hk1q2; simp only [hk1q2])
  refine aOps_store (by rfl) (by rfl) (by repeat (first | exact AHeap.set_same _ _ _ | assumption | refine (AHeap.set_ne _ _ (by first | assumption | exact Ne.symm (by assumption))).trans ?_)) sz28 (by rfl) (by rfl) (by first | exact Nat.le_refl _ | decide | (simp; done) | (simp; omega)) (Nat.zero_le _) (by rfl) ?_
  simp only [AHeap.set_set, AVal.cells]
  simp (decide := true) only [aOps_nil, ev, putD, Slots.put, Slots.get, Slots.keep, if_true, if_false, setAt, List.set_cons_zero, List.set_cons_succ, Nat.zero_add, Nat.reduceAdd, decA]
  repeat (with_reducible refine And.intro ?_ ?_; · first | trivial | omega | (intro hg; simp only [Bool.and_eq_true, Bool.or_eq_true, Bool.not_eq_true', Bool.and_eq_false_iff, Bool.or_eq_false_iff, Bool.not_eq_false', decide_eq_true_eq, decide_eq_false_iff_not, eqNil] at hg; omega))
  apply hK; clear hK K
  -- region 2  law.go:190
  refine awp_rseq [2, 4, 7, 8, 9] (by rfl) fun K hK => ?_
  simp (decide := true) only [ev, putD, Slots.put, Slots.get, if_true, if_false, true_and, ↓ap_loadL, apL_mk, pLoad_agg ag28 sz28, rd_any, cellsAt, List.getD_cons_zero, List.getD_cons_succ, Nat.zero_add, Nat.reduceAdd, lv_bool, lv_int, lv_str, allLive, Bool.and_true]
  repeat (with_reducible refine And.intro ?_ ?_; · first | trivial | omega | (intro hg; simp only [Bool.and_eq_true, Bool.or_eq_true, Bool.not_eq_true', Bool.and_eq_false_iff, Bool.or_eq_false_iff, Bool.not_eq_false', decide_eq_true_eq, decide_eq_false_iff_not, eqNil] at hg; omega))
  refine aOps_callV (V := .tuple [decA (otherD d), .int .i64 0]) (by rfl) (by rfl) ((c_Neg w₀ _ d hdl).val (by rw [negE, if_pos hv])) ?_
  simp (decide := true) only [ev, putD, Slots.put, Slots.get, if_true, if_false, true_and, ↓ap_move, pop_move, ↓ap_extract, pop_extract, pExt_tuple, List.length_cons, List.length_nil, List.getD_cons_zero, List.getD_cons_succ, List.getD_cons_zero, List.getD_cons_succ, Nat.zero_add, Nat.reduceAdd, decA]
  repeat (with_reducible refine And.intro ?_ ?_; · first | trivial | omega | (intro hg; simp only [Bool.and_eq_true, Bool.or_eq_true, Bool.not_eq_true', Bool.and_eq_false_iff, Bool.or_eq_false_iff, Bool.not_eq_false', decide_eq_true_eq, decide_eq_false_iff_not, eqNil] at hg; omega))
  refine aOps_alloc ze28 (cs := [.bool false, .str [], .int .i64 0]) (by rfl) fun k2q5 hk2q5 => ?_
  have ne_2q5_0q0 : k2q5 ≠ k0q0 := by simp only [AHeap.set_none] at hk2q5; simp only [hk2q5, ne_eq, not_false_eq_true]
  have ne_2q5_0q1 : k2q5 ≠ k0q1 := by simp only [AHeap.set_none] at hk2q5; simp only [hk2q5, ne_eq, not_false_eq_true]
  have ne_2q5_1q2 : k2q5 ≠ k1q2 := by simp only [AHeap.set_none] at hk2q5; simp only [hk2q5, ne_eq, not_false_eq_true]
  try have hf_2q5 : h k2q5 = none := by first | assumption | (simp only [AHeap.set_none] at hk2q5; simp only [hk2q5])
  refine aOps_store (by rfl) (by rfl) (by repeat (first | exact AHeap.set_same _ _ _ | assumption | refine (AHeap.set_ne _ _ (by first | assumption | exact Ne.symm (by assumption))).trans ?_)) sz28 (by rfl) (by rfl) (by first | exact Nat.le_refl _ | decide | (simp; done) | (simp; omega)) (Nat.zero_le _) (by rfl) ?_
  simp only [AHeap.set_set, AVal.cells]
  simp (decide := true) only [aOps_nil, ev, putD, Slots.put, Slots.get, Slots.keep, if_true, if_false, true_and, ↓ap_assign, pop_assign, setAt, List.set_cons_zero, List.set_cons_succ, Nat.zero_add, Nat.reduceAdd]
  repeat (with_reducible refine And.intro ?_ ?_; · first | trivial | omega | (intro hg; simp only [Bool.and_eq_true, Bool.or_eq_true, Bool.not_eq_true', Bool.and_eq_false_iff, Bool.or_eq_false_iff, Bool.not_eq_false', decide_eq_true_eq, decide_eq_false_iff_not, eqNil] at hg; omega))
  apply hK; clear hK K
  -- region 3  law.go:191
  refine awp_rseq [2, 7, 8, 9, 11] (by rfl) fun K hK => ?_
  simp (decide := true) only [ev, putD, Slots.put, Slots.get, if_true, if_false, true_and, ↓ap_loadL, apL_mk, pLoad_agg ag26 sz26, rd_ne', ne_eq, not_false_eq_true, ne_1q2_0q1.symm, ne_2q5_0q1.symm, rd_any, cellsAt, List.getD_cons_zero, List.getD_cons_succ, Nat.zero_add, lv_int, allLive, Bool.and_true]
  repeat (with_reducible refine And.intro ?_ ?_; · first | trivial | omega | (intro hg; simp only [Bool.and_eq_true, Bool.or_eq_true, Bool.not_eq_true', Bool.and_eq_false_iff, Bool.or_eq_false_iff, Bool.not_eq_false', decide_eq_true_eq, decide_eq_false_iff_not, eqNil] at hg; omega))
  refine aOps_callV (V := .tuple [.int .i64 (gDig a), .int .i64 s]) (by rfl) (by rfl) ((c_gridOf w₀ _ a b).val (by rw [hs])) ?_
  simp (decide := true) only [aOps_nil, ev, putD, Slots.put, Slots.get, Slots.keep, if_true, if_false, true_and, ↓ap_move, pop_move, ↓ap_extract, pop_extract, pExt_tuple, List.length_cons, List.length_nil, List.getD_cons_zero, List.getD_cons_succ, ↓ap_assign, pop_assign, List.getD_cons_zero, List.getD_cons_succ, Nat.zero_add, Nat.reduceAdd]
  repeat (with_reducible refine And.intro ?_ ?_; · first | trivial | omega | (intro hg; simp only [Bool.and_eq_true, Bool.or_eq_true, Bool.not_eq_true', Bool.and_eq_false_iff, Bool.or_eq_false_iff, Bool.not_eq_false', decide_eq_true_eq, decide_eq_false_iff_not, eqNil] at hg; omega))
  apply hK; clear hK K
  -- region 4  law.go:192
  refine awp_rseq [7, 8, 9, 11, 12] (by rfl) fun K hK => ?_
  simp (decide := true) only [aOps_nil, ev, absV, absS, putD, Slots.put, Slots.get, Slots.keep, if_true, if_false, true_and, ↓ap_move, pop_move, ↓ap_binOp, pop_binOp, pBinX_int, pI_rem, ↓ap_assign, pop_assign]
  try simp (disch := omega) only [Int.tmod_eq_emod_of_nonneg]
  rw [← hmm]
  apply hK; clear hK K
  -- region 5  law.go:193
  refine awp_rseq [7, 8, 9, 11, 12, 13] (by rfl) fun K hK => ?_
  simp (decide := true) only [aOps_nil, ev, putD, Slots.put, Slots.get, Slots.keep, if_true, if_false, true_and, ↓ap_move, pop_move, ↓ap_assign, pop_assign]
  repeat (with_reducible refine And.intro ?_ ?_; · first | trivial | omega | (intro hg; simp only [Bool.and_eq_true, Bool.or_eq_true, Bool.not_eq_true', Bool.and_eq_false_iff, Bool.or_eq_false_iff, Bool.not_eq_false', decide_eq_true_eq, decide_eq_false_iff_not, eqNil] at hg; omega))
  apply hK; clear hK K
  refine awp_seq ?_
  -- region 6  law.go:194
  refine awp_rseq [7, 8, 9, 11, 12, 13, 36] (by rfl) fun K hK => ?_
  simp (decide := true) only [aOps_nil, ev, absV, absS, putD, Slots.put, Slots.get, Slots.keep, if_true, if_false, true_and, ↓ap_move, pop_move, ↓ap_binOp, pop_binOp, pBinX_int, pI_eql]
  repeat (with_reducible refine And.intro ?_ ?_; · first | trivial | omega | (intro hg; simp only [Bool.and_eq_true, Bool.or_eq_true, Bool.not_eq_true', Bool.and_eq_false_iff, Bool.or_eq_false_iff, Bool.not_eq_false', decide_eq_true_eq, decide_eq_false_iff_not, eqNil] at hg; omega))
  apply hK; clear hK K
  refine awp_joinT [7, 8, 9, 11, 12, 13] (fun x : Int => [(7, .ptr (.own k1q2) 0), (8, .ptr (.own k2q5) 0), (9, .int .i64 0), (11, .int .i64 s), (12, .int .u8 mm), (13, .int .u8 x)]) (fun x : Int => (((h.set k0q0 ⟨[.bool neg, v, .int .u8 sc.toNat], 0⟩).set k0q1 ⟨[.int .u8 a.toNat, .int .u8 b.toNat], 0⟩).set k1q2 ⟨[.bool d.neg, .str d.dig, .int .i64 d.scale], 0⟩).set k2q5 ⟨[.bool (otherD d).neg, .str (otherD d).dig, .int .i64 (otherD d).scale], 0⟩) (fun x : Int => x = swM mm) ?_ ?_
  · refine awp_cond (b := _) rfl (fun hb1 => ?_) (fun hb1 => ?_)
    · try simp only [decide_eq_true_eq] at hb1
      -- region 7  law.go:195
      refine awp_r [7, 8, 9, 11, 12, 13] (by rfl) ?_
      simp (decide := true) only [aOps_nil, ev, absV, absS, putD, Slots.put, Slots.keep, if_true, if_false, true_and, ↓ap_assign, pop_assign]
      repeat (with_reducible refine And.intro ?_ ?_; · first | trivial | omega | (intro hg; simp only [Bool.and_eq_true, Bool.or_eq_true, Bool.not_eq_true', Bool.and_eq_false_iff, Bool.or_eq_false_iff, Bool.not_eq_false', decide_eq_true_eq, decide_eq_false_iff_not, eqNil] at hg; omega))
      try simp only [thenA_normal]
      refine ⟨_, rfl, (by repeat (first | exact Sub.refl _ | refine Sub.trans_set ?_ (by assumption))), ?_⟩
      unfold swM; split <;> (try split) <;> omega
    · try simp only [decide_eq_false_iff_not] at hb1
      -- region 8  law.go:196
      refine awp_rseq [7, 8, 9, 11, 12, 13, 38] (by rfl) fun K hK => ?_
      simp (decide := true) only [aOps_nil, ev, absV, absS, putD, Slots.put, Slots.get, Slots.keep, if_true, if_false, true_and, ↓ap_move, pop_move, ↓ap_binOp, pop_binOp, pBinX_int, pI_eql]
      repeat (with_reducible refine And.intro ?_ ?_; · first | trivial | omega | (intro hg; simp only [Bool.and_eq_true, Bool.or_eq_true, Bool.not_eq_true', Bool.and_eq_false_iff, Bool.or_eq_false_iff, Bool.not_eq_false', decide_eq_true_eq, decide_eq_false_iff_not, eqNil] at hg; omega))
      apply hK; clear hK K
      refine awp_cond (b := _) rfl (fun hb2 => ?_) (fun hb2 => ?_)
      · try simp only [decide_eq_true_eq] at hb2
        -- region 9  law.go:197
        refine awp_r [7, 8, 9, 11, 12, 13] (by rfl) ?_
        simp (decide := true) only [aOps_nil, ev, absV, absS, putD, Slots.put, Slots.keep, if_true, if_false, true_and, ↓ap_assign, pop_assign]
        repeat (with_reducible refine And.intro ?_ ?_; · first | trivial | omega | (intro hg; simp only [Bool.and_eq_true, Bool.or_eq_true, Bool.not_eq_true', Bool.and_eq_false_iff, Bool.or_eq_false_iff, Bool.not_eq_false', decide_eq_true_eq, decide_eq_false_iff_not, eqNil] at hg; omega))
        try simp only [thenA_normal]
        refine ⟨_, rfl, (by repeat (first | exact Sub.refl _ | refine Sub.trans_set ?_ (by assumption))), ?_⟩
        unfold swM; split <;> (try split) <;> omega
      · try simp only [decide_eq_false_iff_not] at hb2
        refine awp_skip ?_
        try simp only [thenA_normal]
        refine ⟨_, rfl, (by repeat (first | exact Sub.refl _ | refine Sub.trans_set ?_ (by assumption))), ?_⟩
        unfold swM; split <;> (try split) <;> omega
  · intro x hx
    subst hx
    -- region 10  law.go:199
    refine awp_rseq [8, 9, 11, 13, 14, 15] (by rfl) fun K hK => ?_
    simp (decide := true) only [ev, putD, Slots.put, Slots.get, if_true, if_false, true_and, ↓ap_loadL, apL_mk, pLoad_agg ag28 sz28, ↓ap_move, pop_move, rd_ne', ne_eq, not_false_eq_true, ne_2q5_1q2.symm, rd_any, cellsAt, List.getD_cons_zero, List.getD_cons_succ, Nat.zero_add, Nat.reduceAdd, lv_bool, lv_int, lv_str, allLive, Bool.and_true]
    repeat (with_reducible refine And.intro ?_ ?_; · first | trivial | omega | (intro hg; simp only [Bool.and_eq_true, Bool.or_eq_true, Bool.not_eq_true', Bool.and_eq_false_iff, Bool.or_eq_false_iff, Bool.not_eq_false', decide_eq_true_eq, decide_eq_false_iff_not, eqNil] at hg; omega))
    refine aOps_callV (V := .tuple [decA c, .int .i64 e]) (by rfl) (by rfl) ((c_Round w₀ _ d s mm hdl (by omega) (by omega) mm0.1).val (by rw [hr])) ?_
    simp (decide := true) only [ev, putD, Slots.put, Slots.get, if_true, if_false, true_and, ↓ap_move, pop_move, ↓ap_extract, pop_extract, pExt_tuple, List.length_cons, List.length_nil, List.getD_cons_zero, List.getD_cons_succ, List.getD_cons_zero, List.getD_cons_succ, Nat.zero_add, Nat.reduceAdd, decA]
    repeat (with_reducible refine And.intro ?_ ?_; · first | trivial | omega | (intro hg; simp only [Bool.and_eq_true, Bool.or_eq_true, Bool.not_eq_true', Bool.and_eq_false_iff, Bool.or_eq_false_iff, Bool.not_eq_false', decide_eq_true_eq, decide_eq_false_iff_not, eqNil] at hg; omega))
    refine aOps_alloc ze28 (cs := [.bool false, .str [], .int .i64 0]) (by rfl) fun k10q7 hk10q7 => ?_
    have ne_10q7_0q0 : k10q7 ≠ k0q0 := by simp only [AHeap.set_none] at hk10q7; simp only [hk10q7, ne_eq, not_false_eq_true]
    have ne_10q7_0q1 : k10q7 ≠ k0q1 := by simp only [AHeap.set_none] at hk10q7; simp only [hk10q7, ne_eq, not_false_eq_true]
    have ne_10q7_1q2 : k10q7 ≠ k1q2 := by simp only [AHeap.set_none] at hk10q7; simp only [hk10q7, ne_eq, not_false_eq_true]
    have ne_10q7_2q5 : k10q7 ≠ k2q5 := by simp only [AHeap.set_none] at hk10q7; simp only [hk10q7, ne_eq, not_false_eq_true]
    try have hf_10q7 : h k10q7 = none := by first | assumption | (simp only [AHeap.set_none] at hk10q7; simp only [hk10q7])
    refine aOps_store (by rfl) (by rfl) (by repeat (first | exact AHeap.set_same _ _ _ | assumption | refine (AHeap.set_ne _ _ (by first | assumption | exact Ne.symm (by assumption))).trans ?_)) sz28 (by rfl) (by rfl) (by first | exact Nat.le_refl _ | decide | (simp; done) | (simp; omega)) (Nat.zero_le _) (by rfl) ?_
    simp only [AHeap.set_set, AVal.cells]
    simp (decide := true) only [aOps_nil, ev, putD, Slots.put, Slots.get, Slots.keep, if_true, if_false, true_and, ↓ap_assign, pop_assign, setAt, List.set_cons_zero, List.set_cons_succ, Nat.zero_add, Nat.reduceAdd]
    repeat (with_reducible refine And.intro ?_ ?_; · first | trivial | omega | (intro hg; simp only [Bool.and_eq_true, Bool.or_eq_true, Bool.not_eq_true', Bool.and_eq_false_iff, Bool.or_eq_false_iff, Bool.not_eq_false', decide_eq_true_eq, decide_eq_false_iff_not, eqNil] at hg; omega))
    apply hK; clear hK K
    -- region 11  law.go:200
    refine awp_rseq [9, 14, 15, 16, 17] (by rfl) fun K hK => ?_
    simp (decide := true) only [ev, putD, Slots.put, Slots.get, if_true, if_false, true_and, ↓ap_loadL, apL_mk, pLoad_agg ag28 sz28, ↓ap_move, pop_move, rd_ne', ne_eq, not_false_eq_true, ne_10q7_2q5.symm, rd_any, cellsAt, List.getD_cons_zero, List.getD_cons_succ, Nat.zero_add, Nat.reduceAdd, lv_bool, lv_int, lv_str, allLive, Bool.and_true]
    repeat (with_reducible refine And.intro ?_ ?_; · first | trivial | omega | (intro hg; simp only [Bool.and_eq_true, Bool.or_eq_true, Bool.not_eq_true', Bool.and_eq_false_iff, Bool.or_eq_false_iff, Bool.not_eq_false', decide_eq_true_eq, decide_eq_false_iff_not, eqNil] at hg; omega))
    refine aOps_callV (V := .tuple [decA c', .int .i64 e]) (by rfl) (by rfl) ((c_Round w₀ _ (otherD d) s (swM mm) (check_len (check_other hv)) (by omega) (by omega) sw0).val (by rw [hr'])) ?_
    simp (decide := true) only [ev, putD, Slots.put, Slots.get, if_true, if_false, true_and, ↓ap_move, pop_move, ↓ap_extract, pop_extract, pExt_tuple, List.length_cons, List.length_nil, List.getD_cons_zero, List.getD_cons_succ, List.getD_cons_zero, List.getD_cons_succ, Nat.zero_add, Nat.reduceAdd, decA]
    repeat (with_reducible refine And.intro ?_ ?_; · first | trivial | omega | (intro hg; simp only [Bool.and_eq_true, Bool.or_eq_true, Bool.not_eq_true', Bool.and_eq_false_iff, Bool.or_eq_false_iff, Bool.not_eq_false', decide_eq_true_eq, decide_eq_false_iff_not, eqNil] at hg; omega))
    refine aOps_alloc ze28 (cs := [.bool false, .str [], .int .i64 0]) (by rfl) fun k11q7 hk11q7 => ?_
    have ne_11q7_0q0 : k11q7 ≠ k0q0 := by simp only [AHeap.set_none] at hk11q7; simp only [hk11q7, ne_eq, not_false_eq_true]
    have ne_11q7_0q1 : k11q7 ≠ k0q1 := by simp only [AHeap.set_none] at hk11q7; simp only [hk11q7, ne_eq, not_false_eq_true]
    have ne_11q7_1q2 : k11q7 ≠ k1q2 := by simp only [AHeap.set_none] at hk11q7; simp only [hk11q7, ne_eq, not_false_eq_true]
    have ne_11q7_2q5 : k11q7 ≠ k2q5 := by simp only [AHeap.set_none] at hk11q7; simp only [hk11q7, ne_eq, not_false_eq_true]
    have ne_11q7_10q7 : k11q7 ≠ k10q7 := by simp only [AHeap.set_none] at hk11q7; simp only [hk11q7, ne_eq, not_false_eq_true]
    try have hf_11q7 : h k11q7 = none := by first | assumption | (simp only [AHeap.set_none] at hk11q7; simp only [hk11q7])
    refine aOps_store (by rfl) (by rfl) (by repeat (first | exact AHeap.set_same _ _ _ | assumption | refine (AHeap.set_ne _ _ (by first | assumption | exact Ne.symm (by assumption))).trans ?_)) sz28 (by rfl) (by rfl) (by first | exact Nat.le_refl _ | decide | (simp; done) | (simp; omega)) (Nat.zero_le _) (by rfl) ?_
    simp only [AHeap.set_set, AVal.cells]
    simp (decide := true) only [aOps_nil, ev, putD, Slots.put, Slots.get, Slots.keep, if_true, if_false, true_and, ↓ap_assign, pop_assign, setAt, List.set_cons_zero, List.set_cons_succ, Nat.zero_add, Nat.reduceAdd]
    repeat (with_reducible refine And.intro ?_ ?_; · first | trivial | omega | (intro hg; simp only [Bool.and_eq_true, Bool.or_eq_true, Bool.not_eq_true', Bool.and_eq_false_iff, Bool.or_eq_false_iff, Bool.not_eq_false', decide_eq_true_eq, decide_eq_false_iff_not, eqNil] at hg; omega))
    apply hK; clear hK K
    refine awp_seq ?_
    -- region 12  law.go:201
    refine awp_rseq [14, 15, 16, 59] (by rfl) fun K hK => ?_
    simp (decide := true) only [aOps_nil, ev, absV, absS, putD, Slots.put, Slots.get, Slots.keep, if_true, if_false, true_and, ↓ap_move, pop_move, ↓ap_binOp, pop_binOp, pBinX_int, pI_neq, ↓ag_move, agP, agQ_some, nthDst, gKnown_bool, guardB_bool_false, implies_true, decide_true, Bool.not_false, Bool.not_true, condV_true, Bool.and_true, ↓ag_binOp, ↓ap_pick, pop_pick, pPick_bool, pickV_and, Bool.and_true]
    repeat (with_reducible refine And.intro ?_ ?_; · first | trivial | omega | (intro hg; simp only [Bool.and_eq_true, Bool.or_eq_true, Bool.not_eq_true', Bool.and_eq_false_iff, Bool.or_eq_false_iff, Bool.not_eq_false', decide_eq_true_eq, decide_eq_false_iff_not, eqNil] at hg; omega))
    apply hK; clear hK K
    refine awp_cond (b := _) rfl (fun hb3 => ?_) (fun hb3 => ?_)
    · exfalso; revert hb3; simp
    · try simp only at hb3
      refine awp_skip ?_
      change Awp _ _ _ _ _ _ _
      refine awp_seq ?_
      -- region 14  law.go:204
      refine awp_rseq [14, 16, 61] (by rfl) fun K hK => ?_
      simp (decide := true) only [aOps_nil, ev, absV, absS, putD, Slots.put, Slots.get, Slots.keep, if_true, if_false, true_and, ↓ap_move, pop_move, ↓ap_binOp, pop_binOp, pBinX_int, pI_neq]
      repeat (with_reducible refine And.intro ?_ ?_; · first | trivial | omega | (intro hg; simp only [Bool.and_eq_true, Bool.or_eq_true, Bool.not_eq_true', Bool.and_eq_false_iff, Bool.or_eq_false_iff, Bool.not_eq_false', decide_eq_true_eq, decide_eq_false_iff_not, eqNil] at hg; omega))
      apply hK; clear hK K
      refine awp_cond (b := _) rfl (fun hb4 => ?_) (fun hb4 => ?_)
      · try simp only [decide_eq_false_iff_not, Bool.not_eq_true'] at hb4
        -- region 15  law.go:205
        refine awp_rseq [6] (by rfl) fun K hK => ?_
        refine aOps_callV (V := .bool true) (by rfl) (by rfl) (c_lives w₀ ht _) ?_
        simp (decide := true) only [aOps_nil, ev, putD, Slots.put, Slots.get, Slots.keep, if_true, if_false, true_and, ↓ap_assign, pop_assign]
        repeat (with_reducible refine And.intro ?_ ?_; · first | trivial | omega | (intro hg; simp only [Bool.and_eq_true, Bool.or_eq_true, Bool.not_eq_true', Bool.and_eq_false_iff, Bool.or_eq_false_iff, Bool.not_eq_false', decide_eq_true_eq, decide_eq_false_iff_not, eqNil] at hg; omega))
        apply hK; clear hK K
        refine awp_ret ?_
        try simp only [thenA_ret]
        refine retA_ret h (by repeat (first | exact Sub.refl _ | refine Sub.trans_set ?_ (by assumption))) (resPre_tmp (resPre_nil)) ?_
        simp (decide := true) only [Slots.get, if_true, and_true, resOf_one]
        all_goals first | rfl | exact ⟨rfl, rfl⟩ | (simp (decide := true) only [if_true, if_false, *]; done) | (trace_state; fail)
      · try simp only [decide_eq_true_eq, Bool.not_eq_false'] at hb4
        refine awp_skip ?_
        change Awp _ _ _ _ _ _ _
        -- region 16  law.go:207
        refine awp_rseq [14, 18, 19] (by rfl) fun K hK => ?_
        simp (decide := true) only [ev, putD, Slots.put, Slots.get, if_true, if_false, true_and, ↓ap_loadL, apL_mk, pLoad_agg ag28 sz28, rd_any, cellsAt, List.getD_cons_zero, List.getD_cons_succ, Nat.zero_add, Nat.reduceAdd, lv_bool, lv_int, lv_str, allLive, Bool.and_true]
        repeat (with_reducible refine And.intro ?_ ?_; · first | trivial | omega | (intro hg; simp only [Bool.and_eq_true, Bool.or_eq_true, Bool.not_eq_true', Bool.and_eq_false_iff, Bool.or_eq_false_iff, Bool.not_eq_false', decide_eq_true_eq, decide_eq_false_iff_not, eqNil] at hg; omega))
        refine aOps_callV (V := .tuple [decA c, .int .i64 0]) (by rfl) (by rfl) ((c_Neg w₀ _ c' hcl).val (by rw [negE, if_pos (hce (by simpa using hb4)).1, (hce (by simpa using hb4)).2])) ?_
        simp (decide := true) only [ev, putD, Slots.put, Slots.get, if_true, if_false, true_and, ↓ap_move, pop_move, ↓ap_extract, pop_extract, pExt_tuple, List.length_cons, List.length_nil, List.getD_cons_zero, List.getD_cons_succ, List.getD_cons_zero, List.getD_cons_succ, Nat.zero_add, Nat.reduceAdd, decA]
        repeat (with_reducible refine And.intro ?_ ?_; · first | trivial | omega | (intro hg; simp only [Bool.and_eq_true, Bool.or_eq_true, Bool.not_eq_true', Bool.and_eq_false_iff, Bool.or_eq_false_iff, Bool.not_eq_false', decide_eq_true_eq, decide_eq_false_iff_not, eqNil] at hg; omega))
        refine aOps_alloc ze28 (cs := [.bool false, .str [], .int .i64 0]) (by rfl) fun k16q5 hk16q5 => ?_
        have ne_16q5_0q0 : k16q5 ≠ k0q0 := by simp only [AHeap.set_none] at hk16q5; simp only [hk16q5, ne_eq, not_false_eq_true]
        have ne_16q5_0q1 : k16q5 ≠ k0q1 := by simp only [AHeap.set_none] at hk16q5; simp only [hk16q5, ne_eq, not_false_eq_true]
        have ne_16q5_1q2 : k16q5 ≠ k1q2 := by simp only [AHeap.set_none] at hk16q5; simp only [hk16q5, ne_eq, not_false_eq_true]
        have ne_16q5_2q5 : k16q5 ≠ k2q5 := by simp only [AHeap.set_none] at hk16q5; simp only [hk16q5, ne_eq, not_false_eq_true]
        have ne_16q5_10q7 : k16q5 ≠ k10q7 := by simp only [AHeap.set_none] at hk16q5; simp only [hk16q5, ne_eq, not_false_eq_true]
        have ne_16q5_11q7 : k16q5 ≠ k11q7 := by simp only [AHeap.set_none] at hk16q5; simp only [hk16q5, ne_eq, not_false_eq_true]
        try have hf_16q5 : h k16q5 = none := by first | assumption | (simp only [AHeap.set_none] at hk16q5; simp only [hk16q5])
        refine aOps_store (by rfl) (by rfl) (by repeat (first | exact AHeap.set_same _ _ _ | assumption | refine (AHeap.set_ne _ _ (by first | assumption | exact Ne.symm (by assumption))).trans ?_)) sz28 (by rfl) (by rfl) (by first | exact Nat.le_refl _ | decide | (simp; done) | (simp; omega)) (Nat.zero_le _) (by rfl) ?_
        simp only [AHeap.set_set, AVal.cells]
        simp (decide := true) only [aOps_nil, ev, putD, Slots.put, Slots.get, Slots.keep, if_true, if_false, true_and, ↓ap_assign, pop_assign, setAt, List.set_cons_zero, List.set_cons_succ, Nat.zero_add, Nat.reduceAdd]
        repeat (with_reducible refine And.intro ?_ ?_; · first | trivial | omega | (intro hg; simp only [Bool.and_eq_true, Bool.or_eq_true, Bool.not_eq_true', Bool.and_eq_false_iff, Bool.or_eq_false_iff, Bool.not_eq_false', decide_eq_true_eq, decide_eq_false_iff_not, eqNil] at hg; omega))
        apply hK; clear hK K
        -- region 17  law.go:208
        refine awp_rseq [6] (by rfl) fun K hK => ?_
        simp (decide := true) only [ev, absV, absS, putD, Slots.put, Slots.get, if_true, if_false, true_and, ↓ap_move, pop_move, ↓ap_binOp, pop_binOp, pBinX_int, pI_eql, ↓ag_loadL, agQL_some, agL_mk, agP, agQ_some, nthDst, gKnown_bool, guardB_bool_true, implies_true, decide_true, condV_true, Bool.and_true, Bool.true_and, pLoad_agg ag28 sz28, ↓ag_binOp, pBinX_agg, eq28, ↓ap_pick, pop_pick, pPick_bool, pickV_and, rd_ne', ne_eq, not_false_eq_true, ne_11q7_10q7.symm, ne_16q5_10q7.symm, rd_any, cellsAt, List.getD_cons_zero, List.getD_cons_succ, Nat.zero_add, Nat.reduceAdd, lv_bool, lv_int, lv_str, allLive, Bool.and_true]
        repeat (with_reducible refine And.intro ?_ ?_; · first | trivial | omega | (intro hg; simp only [Bool.and_eq_true, Bool.or_eq_true, Bool.not_eq_true', Bool.and_eq_false_iff, Bool.or_eq_false_iff, Bool.not_eq_false', decide_eq_true_eq, decide_eq_false_iff_not, eqNil] at hg; omega))
        first
        | (refine aOps_yes (by rfl) ?_; refine aOps_callV (V := .bool true) (by rfl) (by rfl) (c_lives w₀ ht _) ?_)
        | (refine aOps_gcall (V := .bool true) (f := _) (cap := _) (xs := _) rfl (fun hg => ⟨rfl, ?_⟩) (fun hg => c_lives w₀ ht _) ?_; · (simp (decide := true) only [gv, nthDst, Slots.get, if_true, if_false, guardB_bool_true] at hg; simp (decide := true) only [evs, hg, List.append_nil, List.map_nil]))
        simp (decide := true) only [aOps_nil, ev, absV, absS, putD, Slots.put, Slots.get, Slots.keep, if_true, if_false, true_and, gv, nthDst, guardB_bool_true, ↓ap_pick, pop_pick, pPick_bool, pickV_cond_l, pickV_and, ↓ap_assign, pop_assign, Bool.and_true]
        repeat (with_reducible refine And.intro ?_ ?_; · first | trivial | omega | (intro hg; simp only [Bool.and_eq_true, Bool.or_eq_true, Bool.not_eq_true', Bool.and_eq_false_iff, Bool.or_eq_false_iff, Bool.not_eq_false', decide_eq_true_eq, decide_eq_false_iff_not, eqNil] at hg; omega))
        apply hK; clear hK K
        refine awp_ret ?_
        try simp only [thenA_ret, inBlockA_ret]
        refine retA_ret h (by repeat (first | exact Sub.refl _ | refine Sub.trans_set ?_ (by assumption))) (resPre_tmp (resPre_nil)) ?_
        simp (decide := true) only [Slots.get, if_true, and_true, resOf_one]
        simp
end Go.Proofs.YtnaioficflbioaaDoor
