/-
  Texts of this proof, joined: DcM, DcN, DcR, DcS, DcT, DcO, DcP, DcU, DcV, DcQ, DcW, DcX, DcY.
  Conditions: none.
-/
import Derived.Test.YthiiakghjoeikaaGreatDoorQd
import Derived.Test.YthiiakghjoeikaaGreatDoorQc
set_option linter.unusedSimpArgs false
set_option linter.unnecessarySimpa false
set_option linter.unusedVariables false
/-
  Contracts: Pow, Int of the package decimals; of, of the statements.
  Conditions: none.
-/
namespace Go.Proofs.YthiiakghjoeikaaGreatDoor
open Go.AM
open Go.Proofs
open Go.Dec
open Go.Lib (decDigits)
set_option maxRecDepth 100000

def powE (a n : D) : D × Int :=
  if checkE a = 0 ∧ checkE n = 0 then
    if (toIntE n).2 = 12 then (noD, 12)
    else if (toIntE n).2 ≠ 0 ∨ (toIntE n).1 < 0 ∨ 99 < (toIntE n).1 then (noD, 13)
    else normE (a.neg && decide ((toIntE n).1 % 2 = 1)) (natOf a.dig ^ (toIntE n).1.toNat) (a.scale * (toIntE n).1)
  else (noD, 1)
theorem pow_len {A i B : Nat} (hA : A < 10 ^ 62) (hi : 62 * i < B) : (trN (A ^ i)).length ≤ B := by
  refine trN_len.2 (Nat.lt_of_le_of_lt (Nat.pow_le_pow_left (Nat.le_of_lt hA) i) ?_)
  rw [← Nat.pow_mul]
  exact Nat.pow_lt_pow_right (by omega) hi
theorem trN_one : trN 1 = [49] := by rw [trN, if_neg (by decide), decDigits_small (by omega)]; rfl
set_option maxHeartbeats 1000000 in
theorem c_Pow (w₀ : World) (he : Errs w₀) (h : AHeap) (a n : D) (la : a.dig.length ≤ 9223372036854775807) (ln : n.dig.length ≤ 9223372036854775807) :
    ACall Tryz.prog w₀ 31 [decA a, decA n] h (fun v h' => v = .tuple [decA (powE a n).1, .int .i64 (powE a n).2] ∧ h' = h) := by
  obtain ⟨k, e, hke⟩ : ∃ k e, toIntE n = (k, e) := ⟨_, _, rfl⟩
  refine acall_intro (n := 63) (rs := [.cell 4 27, .tmp 5]) Tryz.func31 rfl rfl rfl rfl (Nat.le_of_ble_eq_true rfl) ?_
  simp only [initSlots]
  -- region 0  decimals.go:290
  refine awp_rseq [2, 3, 4] (by rfl) fun K hK => ?_
  refine aOps_box (by rfl) (by rfl) (by rfl) fun k0q0 hk0q0 => ?_
  try have hf_0q0 : h k0q0 = none := by first | assumption | (simp only [AHeap.set_none] at hk0q0; simp only [hk0q0])
  skip
  refine aOps_box (by rfl) (by rfl) (by rfl) fun k0q1 hk0q1 => ?_
  have ne_0q1_0q0 : k0q1 ≠ k0q0 := by simp only [AHeap.set_none] at hk0q1; simp only [hk0q1, ne_eq, not_false_eq_true]
  try have hf_0q1 : h k0q1 = none := by first | assumption | (simp only [AHeap.set_none] at hk0q1; simp only [hk0q1])
  skip
  refine aOps_alloc ze27 (cs := [.bool false, .str [], .int .i64 0]) (by rfl) fun k0q2 hk0q2 => ?_
  have ne_0q2_0q0 : k0q2 ≠ k0q0 := by simp only [AHeap.set_none] at hk0q2; simp only [hk0q2, ne_eq, not_false_eq_true]
  have ne_0q2_0q1 : k0q2 ≠ k0q1 := by simp only [AHeap.set_none] at hk0q2; simp only [hk0q2, ne_eq, not_false_eq_true]
  try have hf_0q2 : h k0q2 = none := by first | assumption | (simp only [AHeap.set_none] at hk0q2; simp only [hk0q2])
  simp (decide := true) only [aOps_nil, ev, absV, absS, putD, Slots.put, Slots.get, Slots.keep, if_true, if_false, true_and, ↓ap_assign, pop_assign, AVal.cells, Nat.zero_add, decA]
  repeat (with_reducible refine And.intro ?_ ?_; · first | trivial | omega | (intro hg; simp only [Bool.and_eq_true, Bool.or_eq_true, Bool.not_eq_true', Bool.and_eq_false_iff, Bool.or_eq_false_iff, Bool.not_eq_false', decide_eq_true_eq, decide_eq_false_iff_not, eqNil] at hg; omega) | (simp only [List.length_append, List.length_map, List.length_range, List.length_replicate, List.length_take, List.length_drop, List.length_cons, List.length_nil, List.length_set, List.length_reverse]; omega))
  apply hK; clear hK K
  refine awp_seq ?_
  -- region 1  decimals.go:291
  refine awp_rseq [2, 3, 4, 6] (by rfl) fun K hK => ?_
  simp (decide := true) only [ev, putD, Slots.put, Slots.get, if_true, if_false, true_and, ↓ap_loadL, apL_mk, pLoad_agg ag27 sz27, rd_ne', ne_eq, not_false_eq_true, ne_0q1_0q0.symm, ne_0q2_0q0.symm, ne_0q2_0q1.symm, rd_any, cellsAt, List.getD_cons_zero, List.getD_cons_succ, Nat.zero_add, Nat.reduceAdd, lv_bool, lv_int, lv_str, allLive, Bool.and_true]
  repeat (with_reducible refine And.intro ?_ ?_; · first | trivial | omega | (intro hg; simp only [Bool.and_eq_true, Bool.or_eq_true, Bool.not_eq_true', Bool.and_eq_false_iff, Bool.or_eq_false_iff, Bool.not_eq_false', decide_eq_true_eq, decide_eq_false_iff_not, eqNil] at hg; omega) | (simp only [List.length_append, List.length_map, List.length_range, List.length_replicate, List.length_take, List.length_drop, List.length_cons, List.length_nil, List.length_set, List.length_reverse]; omega))
  refine aOps_callV (V := .int .i64 (max (checkE a) (checkE n))) (by rfl) (by rfl) (c_both w₀ _ a n la ln) ?_
  simp (decide := true) only [aOps_nil, ev, putD, Slots.put, Slots.get, Slots.keep, if_true, if_false, true_and, ↓ap_assign, pop_assign]
  repeat (with_reducible refine And.intro ?_ ?_; · first | trivial | omega | (intro hg; simp only [Bool.and_eq_true, Bool.or_eq_true, Bool.not_eq_true', Bool.and_eq_false_iff, Bool.or_eq_false_iff, Bool.not_eq_false', decide_eq_true_eq, decide_eq_false_iff_not, eqNil] at hg; omega) | (simp only [List.length_append, List.length_map, List.length_range, List.length_replicate, List.length_take, List.length_drop, List.length_cons, List.length_nil, List.length_set, List.length_reverse]; omega))
  apply hK; clear hK K
  -- region 2  decimals.go:291
  refine awp_rseq [2, 3, 4, 6, 14] (by rfl) fun K hK => ?_
  simp (decide := true) only [aOps_nil, ev, absV, absS, putD, Slots.put, Slots.get, Slots.keep, if_true, if_false, true_and, ↓ap_move, pop_move, ↓ap_binOp, pop_binOp, isNilC_int, cond_false, pBinX_int, pI_neq]
  repeat (with_reducible refine And.intro ?_ ?_; · first | trivial | omega | (intro hg; simp only [Bool.and_eq_true, Bool.or_eq_true, Bool.not_eq_true', Bool.and_eq_false_iff, Bool.or_eq_false_iff, Bool.not_eq_false', decide_eq_true_eq, decide_eq_false_iff_not, eqNil] at hg; omega) | (simp only [List.length_append, List.length_map, List.length_range, List.length_replicate, List.length_take, List.length_drop, List.length_cons, List.length_nil, List.length_set, List.length_reverse]; omega))
  apply hK; clear hK K
  refine awp_cond (b := _) rfl (fun hb1 => ?_) (fun hb1 => ?_)
  · try simp only [decide_eq_false_iff_not, Bool.not_eq_true'] at hb1
    -- region 3  decimals.go:292
    refine awp_rseq [4, 5] (by rfl) fun K hK => ?_
    simp (decide := true) only [ev, absV, absS, putD, Slots.put, Slots.get, if_true, if_false, true_and, ↓ap_build, ↓pop_buildL, bld27_, evP, List.map_nil, ↓ap_move, pop_move]
    repeat (with_reducible refine And.intro ?_ ?_; · first | trivial | omega | (intro hg; simp only [Bool.and_eq_true, Bool.or_eq_true, Bool.not_eq_true', Bool.and_eq_false_iff, Bool.or_eq_false_iff, Bool.not_eq_false', decide_eq_true_eq, decide_eq_false_iff_not, eqNil] at hg; omega) | (simp only [List.length_append, List.length_map, List.length_range, List.length_replicate, List.length_take, List.length_drop, List.length_cons, List.length_nil, List.length_set, List.length_reverse]; omega))
    refine aOps_store (by rfl) (by rfl) (by repeat (first | exact AHeap.set_same _ _ _ | assumption | refine (AHeap.set_ne _ _ (by first | assumption | exact Ne.symm (by assumption))).trans ?_)) sz27 (by rfl) (by rfl) (by first | exact Nat.le_refl _ | decide | (simp; done) | (simp; omega)) (Nat.zero_le _) (by rfl) ?_
    simp only [AHeap.set_set, AVal.cells]
    simp (decide := true) only [aOps_nil, ev, putD, Slots.put, Slots.get, Slots.keep, if_true, if_false, true_and, ↓ap_assign, pop_assign, setAt, List.set_cons_zero, List.set_cons_succ, Nat.zero_add, Nat.reduceAdd]
    repeat (with_reducible refine And.intro ?_ ?_; · first | trivial | omega | (intro hg; simp only [Bool.and_eq_true, Bool.or_eq_true, Bool.not_eq_true', Bool.and_eq_false_iff, Bool.or_eq_false_iff, Bool.not_eq_false', decide_eq_true_eq, decide_eq_false_iff_not, eqNil] at hg; omega) | (simp only [List.length_append, List.length_map, List.length_range, List.length_replicate, List.length_take, List.length_drop, List.length_cons, List.length_nil, List.length_set, List.length_reverse]; omega))
    apply hK; clear hK K
    refine awp_ret ?_
    try simp only [thenA_ret]
    refine retA_ret h (by repeat (first | exact Sub.refl _ | assumption | refine Sub.trans_set ?_ (by assumption))) (?_) ?_
    · simp (decide := true) only [resPre, resV_tmp, resV_cell, Slots.get, if_true, if_false, and_true, resV_tmp, resV_cell, pLoad_agg ag27 sz27, rd_set, cellsAt, List.getD_cons_zero, List.getD_cons_succ, Nat.zero_add, Nat.reduceAdd, lv_bool, lv_int, lv_str, allLive, Bool.and_true, cellsAt, List.getD_cons_zero, List.getD_cons_succ, Nat.zero_add, Nat.reduceAdd, lv_bool, lv_int, lv_str, allLive, Bool.and_true]
    
    simp (decide := true) only [Slots.get, if_true, if_false, and_true, resOfG_two, resV_tmp, resV_cell, pLoad_agg ag27 sz27, rd_set, cellsAt, List.getD_cons_zero, List.getD_cons_succ, Nat.zero_add, Nat.reduceAdd, lv_bool, lv_int, lv_str, allLive, Bool.and_true, cellsAt, List.getD_cons_zero, List.getD_cons_succ, Nat.zero_add, Nat.reduceAdd, lv_bool, lv_int, lv_str, allLive, Bool.and_true, decA]
    obtain ⟨e1, e2⟩ := both_bad hb1
    rw [powE, if_neg e2, e1]
    rfl
  · try simp only [decide_eq_true_eq, Bool.not_eq_false'] at hb1
    obtain ⟨ca, cn⟩ := both_ok (by simpa using hb1)
    obtain ⟨sa, da, na, _⟩ := Small_of_check ca
    have ha1 := sa.l
    have ha2 := sa.s0
    have ha3 := sa.s1
    refine awp_skip ?_
    change Awp _ _ _ _ _ _ _
    -- region 4  decimals.go:294
    refine awp_rseq [2, 4, 7, 8] (by rfl) fun K hK => ?_
    simp (decide := true) only [ev, putD, Slots.put, Slots.get, if_true, if_false, true_and, ↓ap_loadL, apL_mk, pLoad_agg ag27 sz27, rd_ne', ne_eq, not_false_eq_true, ne_0q2_0q1.symm, rd_any, cellsAt, List.getD_cons_zero, List.getD_cons_succ, Nat.zero_add, Nat.reduceAdd, lv_bool, lv_int, lv_str, allLive, Bool.and_true]
    repeat (with_reducible refine And.intro ?_ ?_; · first | trivial | omega | (intro hg; simp only [Bool.and_eq_true, Bool.or_eq_true, Bool.not_eq_true', Bool.and_eq_false_iff, Bool.or_eq_false_iff, Bool.not_eq_false', decide_eq_true_eq, decide_eq_false_iff_not, eqNil] at hg; omega) | (simp only [List.length_append, List.length_map, List.length_range, List.length_replicate, List.length_take, List.length_drop, List.length_cons, List.length_nil, List.length_set, List.length_reverse]; omega))
    refine aOps_callV (V := .tuple [.int .i64 k, .int .i64 e]) (by rfl) (by rfl) ((c_ToInt w₀ he _ n ln).val (by rw [hke])) ?_
    simp (decide := true) only [aOps_nil, ev, putD, Slots.put, Slots.get, Slots.keep, if_true, if_false, true_and, ↓ap_move, pop_move, ↓ap_extract, pop_extract, pExt_tuple, List.length_cons, List.length_nil, List.getD_cons_zero, List.getD_cons_succ, ↓ap_assign, pop_assign, List.getD_cons_zero, List.getD_cons_succ, Nat.zero_add, Nat.reduceAdd]
    repeat (with_reducible refine And.intro ?_ ?_; · first | trivial | omega | (intro hg; simp only [Bool.and_eq_true, Bool.or_eq_true, Bool.not_eq_true', Bool.and_eq_false_iff, Bool.or_eq_false_iff, Bool.not_eq_false', decide_eq_true_eq, decide_eq_false_iff_not, eqNil] at hg; omega) | (simp only [List.length_append, List.length_map, List.length_range, List.length_replicate, List.length_take, List.length_drop, List.length_cons, List.length_nil, List.length_set, List.length_reverse]; omega))
    apply hK; clear hK K
    refine awp_seq ?_
    refine awp_block ?_
    -- region 5  decimals.go:296
    refine awp_rseq [2, 4, 7, 8, 22] (by rfl) fun K hK => ?_
    simp (decide := true) only [aOps_nil, ev, absV, absS, putD, Slots.put, Slots.get, Slots.keep, if_true, if_false, true_and, ↓ap_move, pop_move, ↓ap_binOp, pop_binOp, isNilC_int, cond_false, pBinX_int, pI_eql, ↓ap_assign, pop_assign]
    repeat (with_reducible refine And.intro ?_ ?_; · first | trivial | omega | (intro hg; simp only [Bool.and_eq_true, Bool.or_eq_true, Bool.not_eq_true', Bool.and_eq_false_iff, Bool.or_eq_false_iff, Bool.not_eq_false', decide_eq_true_eq, decide_eq_false_iff_not, eqNil] at hg; omega) | (simp only [List.length_append, List.length_map, List.length_range, List.length_replicate, List.length_take, List.length_drop, List.length_cons, List.length_nil, List.length_set, List.length_reverse]; omega))
    apply hK; clear hK K
    refine awp_cond (b := _) rfl (fun hb2 => ?_) (fun hb2 => ?_)
    · try simp only [decide_eq_true_eq] at hb2
      -- region 6  decimals.go:297
      refine awp_rseq [4, 5] (by rfl) fun K hK => ?_
      simp (decide := true) only [ev, absV, absS, putD, Slots.put, Slots.get, if_true, if_false, true_and, ↓ap_build, ↓pop_buildL, bld27_, evP, List.map_nil, ↓ap_move, pop_move]
      repeat (with_reducible refine And.intro ?_ ?_; · first | trivial | omega | (intro hg; simp only [Bool.and_eq_true, Bool.or_eq_true, Bool.not_eq_true', Bool.and_eq_false_iff, Bool.or_eq_false_iff, Bool.not_eq_false', decide_eq_true_eq, decide_eq_false_iff_not, eqNil] at hg; omega) | (simp only [List.length_append, List.length_map, List.length_range, List.length_replicate, List.length_take, List.length_drop, List.length_cons, List.length_nil, List.length_set, List.length_reverse]; omega))
      refine aOps_store (by rfl) (by rfl) (by repeat (first | exact AHeap.set_same _ _ _ | assumption | refine (AHeap.set_ne _ _ (by first | assumption | exact Ne.symm (by assumption))).trans ?_)) sz27 (by rfl) (by rfl) (by first | exact Nat.le_refl _ | decide | (simp; done) | (simp; omega)) (Nat.zero_le _) (by rfl) ?_
      simp only [AHeap.set_set, AVal.cells]
      simp (decide := true) only [aOps_nil, ev, putD, Slots.put, Slots.get, Slots.keep, if_true, if_false, true_and, ↓ap_assign, pop_assign, setAt, List.set_cons_zero, List.set_cons_succ, Nat.zero_add, Nat.reduceAdd]
      repeat (with_reducible refine And.intro ?_ ?_; · first | trivial | omega | (intro hg; simp only [Bool.and_eq_true, Bool.or_eq_true, Bool.not_eq_true', Bool.and_eq_false_iff, Bool.or_eq_false_iff, Bool.not_eq_false', decide_eq_true_eq, decide_eq_false_iff_not, eqNil] at hg; omega) | (simp only [List.length_append, List.length_map, List.length_range, List.length_replicate, List.length_take, List.length_drop, List.length_cons, List.length_nil, List.length_set, List.length_reverse]; omega))
      apply hK; clear hK K
      refine awp_ret ?_
      try simp only [thenA_ret, inBlockA_ret]
      refine retA_ret h (by repeat (first | exact Sub.refl _ | assumption | refine Sub.trans_set ?_ (by assumption))) (?_) ?_
      · simp (decide := true) only [resPre, resV_tmp, resV_cell, Slots.get, if_true, if_false, and_true, resV_tmp, resV_cell, pLoad_agg ag27 sz27, rd_set, cellsAt, List.getD_cons_zero, List.getD_cons_succ, Nat.zero_add, Nat.reduceAdd, lv_bool, lv_int, lv_str, allLive, Bool.and_true, cellsAt, List.getD_cons_zero, List.getD_cons_succ, Nat.zero_add, Nat.reduceAdd, lv_bool, lv_int, lv_str, allLive, Bool.and_true]
      
      simp (decide := true) only [Slots.get, if_true, if_false, and_true, resOfG_two, resV_tmp, resV_cell, pLoad_agg ag27 sz27, rd_set, cellsAt, List.getD_cons_zero, List.getD_cons_succ, Nat.zero_add, Nat.reduceAdd, lv_bool, lv_int, lv_str, allLive, Bool.and_true, cellsAt, List.getD_cons_zero, List.getD_cons_succ, Nat.zero_add, Nat.reduceAdd, lv_bool, lv_int, lv_str, allLive, Bool.and_true, decA]
      rw [powE, if_pos ⟨ca, cn⟩, hke, if_pos hb2, hb2]
      rfl
    · try simp only [decide_eq_false_iff_not] at hb2
      -- region 7  decimals.go:298
      refine awp_rseq [2, 4, 7, 27] (by rfl) fun K hK => ?_
      simp (decide := true) only [aOps_nil, ev, absV, absS, putD, Slots.put, Slots.get, Slots.keep, if_true, if_false, true_and, ↓ap_move, pop_move, ↓ap_binOp, pop_binOp, isNilC_int, cond_false, pBinX_int, pI_neq, ↓ag_move, agP, agQ_some, nthDst, gKnown_bool, guardB_bool_false, implies_true, Bool.not_not, ↓ag_binOp, cv_binl, cp_binl, pI_lss, ↓ap_pick, pop_pick, pPick_bool, pickV_cond_r, pickV_cond_rn, pickV_or, pI_gtr, ↓ap_assign, pop_assign]
      repeat (with_reducible refine And.intro ?_ ?_; · first | trivial | omega | (intro hg; simp only [Bool.and_eq_true, Bool.or_eq_true, Bool.not_eq_true', Bool.and_eq_false_iff, Bool.or_eq_false_iff, Bool.not_eq_false', decide_eq_true_eq, decide_eq_false_iff_not, eqNil] at hg; omega) | (simp only [List.length_append, List.length_map, List.length_range, List.length_replicate, List.length_take, List.length_drop, List.length_cons, List.length_nil, List.length_set, List.length_reverse]; omega))
      apply hK; clear hK K
      refine awp_cond (b := _) rfl (fun hb3 => ?_) (fun hb3 => ?_)
      · try simp only [decide_eq_true_eq, decide_eq_false_iff_not, Bool.not_eq_true', Bool.or_eq_true] at hb3
        -- region 8  decimals.go:299
        refine awp_rseq [4, 5] (by rfl) fun K hK => ?_
        simp (decide := true) only [ev, absV, absS, putD, Slots.put, Slots.get, if_false, true_and, ↓ap_build, ↓pop_buildL, bld27_, evP, List.map_nil]
        repeat (with_reducible refine And.intro ?_ ?_; · first | trivial | omega | (intro hg; simp only [Bool.and_eq_true, Bool.or_eq_true, Bool.not_eq_true', Bool.and_eq_false_iff, Bool.or_eq_false_iff, Bool.not_eq_false', decide_eq_true_eq, decide_eq_false_iff_not, eqNil] at hg; omega) | (simp only [List.length_append, List.length_map, List.length_range, List.length_replicate, List.length_take, List.length_drop, List.length_cons, List.length_nil, List.length_set, List.length_reverse]; omega))
        refine aOps_store (by rfl) (by rfl) (by repeat (first | exact AHeap.set_same _ _ _ | assumption | refine (AHeap.set_ne _ _ (by first | assumption | exact Ne.symm (by assumption))).trans ?_)) sz27 (by rfl) (by rfl) (by first | exact Nat.le_refl _ | decide | (simp; done) | (simp; omega)) (Nat.zero_le _) (by rfl) ?_
        simp only [AHeap.set_set, AVal.cells]
        simp (decide := true) only [aOps_nil, ev, absV, absS, putD, Slots.put, Slots.get, Slots.keep, if_true, if_false, true_and, ↓ap_assign, pop_assign, setAt, List.set_cons_zero, List.set_cons_succ, Nat.zero_add, Nat.reduceAdd]
        repeat (with_reducible refine And.intro ?_ ?_; · first | trivial | omega | (intro hg; simp only [Bool.and_eq_true, Bool.or_eq_true, Bool.not_eq_true', Bool.and_eq_false_iff, Bool.or_eq_false_iff, Bool.not_eq_false', decide_eq_true_eq, decide_eq_false_iff_not, eqNil] at hg; omega) | (simp only [List.length_append, List.length_map, List.length_range, List.length_replicate, List.length_take, List.length_drop, List.length_cons, List.length_nil, List.length_set, List.length_reverse]; omega))
        apply hK; clear hK K
        refine awp_ret ?_
        try simp only [thenA_ret, inBlockA_ret]
        refine retA_ret h (by repeat (first | exact Sub.refl _ | assumption | refine Sub.trans_set ?_ (by assumption))) (?_) ?_
        · simp (decide := true) only [resPre, resV_tmp, resV_cell, Slots.get, if_true, if_false, and_true, resV_tmp, resV_cell, pLoad_agg ag27 sz27, rd_set, cellsAt, List.getD_cons_zero, List.getD_cons_succ, Nat.zero_add, Nat.reduceAdd, lv_bool, lv_int, lv_str, allLive, Bool.and_true, cellsAt, List.getD_cons_zero, List.getD_cons_succ, Nat.zero_add, Nat.reduceAdd, lv_bool, lv_int, lv_str, allLive, Bool.and_true]
        
        simp (decide := true) only [Slots.get, if_true, if_false, and_true, resOfG_two, resV_tmp, resV_cell, pLoad_agg ag27 sz27, rd_set, cellsAt, List.getD_cons_zero, List.getD_cons_succ, Nat.zero_add, Nat.reduceAdd, lv_bool, lv_int, lv_str, allLive, Bool.and_true, cellsAt, List.getD_cons_zero, List.getD_cons_succ, Nat.zero_add, Nat.reduceAdd, lv_bool, lv_int, lv_str, allLive, Bool.and_true, decA]
        rw [powE, if_pos ⟨ca, cn⟩, hke, if_neg hb2, if_pos (by rcases hb3 with (q | q) | q; exact .inl q; exact .inr (.inl q); exact .inr (.inr q))]
        rfl
      · try simp only [decide_eq_true_eq, decide_eq_false_iff_not, Bool.not_eq_false', Bool.or_eq_false_iff] at hb3
        have hk : e = 0 ∧ 0 ≤ k ∧ k ≤ 99 := by omega
        obtain ⟨he0, hk0, hk99⟩ := hk
        have hA := natOf_lt _ da
        have hA62 : natOf a.dig < 10 ^ 62 := Nat.lt_of_lt_of_le hA (Nat.pow_le_pow_right (by omega) ha1)
        have hAl : ∀ i : Nat, i ≤ 99 → (trN (natOf a.dig ^ i)).length ≤ 6139 := fun i hi => pow_len hA62 (by omega)
        refine awp_skip ?_
        change Awp _ _ _ _ _ _ _
        -- region 9  decimals.go:301
        refine awp_rseq [2, 4, 7, 9] (by rfl) fun K hK => ?_
        simp (decide := true) only [aOps_nil, ev, absV, absS, putD, Slots.put, Slots.keep, if_true, if_false, true_and, ↓ap_assign, pop_assign]
        repeat (with_reducible refine And.intro ?_ ?_; · first | trivial | omega | (intro hg; simp only [Bool.and_eq_true, Bool.or_eq_true, Bool.not_eq_true', Bool.and_eq_false_iff, Bool.or_eq_false_iff, Bool.not_eq_false', decide_eq_true_eq, decide_eq_false_iff_not, eqNil] at hg; omega) | (simp only [List.length_append, List.length_map, List.length_range, List.length_replicate, List.length_take, List.length_drop, List.length_cons, List.length_nil, List.length_set, List.length_reverse]; omega))
        apply hK; clear hK K
        refine awp_seq ?_
        -- region 10  decimals.go:302
        refine awp_rseq [2, 4, 7, 9, 39, 40] (by rfl) fun K hK => ?_
        simp (decide := true) only [aOps_nil, ev, absV, absS, putD, Slots.put, Slots.get, Slots.keep, if_true, if_false, true_and, ↓ap_move, pop_move]
        repeat (with_reducible refine And.intro ?_ ?_; · first | trivial | omega | (intro hg; simp only [Bool.and_eq_true, Bool.or_eq_true, Bool.not_eq_true', Bool.and_eq_false_iff, Bool.or_eq_false_iff, Bool.not_eq_false', decide_eq_true_eq, decide_eq_false_iff_not, eqNil] at hg; omega) | (simp only [List.length_append, List.length_map, List.length_range, List.length_replicate, List.length_take, List.length_drop, List.length_cons, List.length_nil, List.length_set, List.length_reverse]; omega))
        apply hK; clear hK K
        refine awp_block ?_
        refine awp_loopG [2, 4, 7, 9, 39, 40] (fun i : Nat => [(2, .ptr (.own k0q0) 0), (4, .ptr (.own k0q2) 0), (7, .int .i64 k), (9, .str (trN (natOf a.dig ^ i))), (39, .int .i64 k), (40, .int .i64 i)]) (fun i : Nat => ((h.set k0q0 ⟨[.bool a.neg, .str a.dig, .int .i64 a.scale], 0⟩).set k0q1 ⟨[.bool n.neg, .str n.dig, .int .i64 n.scale], 0⟩).set k0q2 ⟨[.bool false, .str [], .int .i64 0], 0⟩) (fun i : Nat => (i : Int) ≤ k) (fun i : Nat => 100 - i) 0 (by rw [Nat.pow_zero, trN_one]; rfl) (Sub.refl _) (by omega) ?_
        intro i hi
        have hil := hAl i (by omega)
        -- region 11  decimals.go:302
        refine awp_rseq [2, 4, 7, 9, 39, 40, 41] (by rfl) fun K hK => ?_
        simp (decide := true) only [aOps_nil, ev, putD, Slots.put, Slots.get, Slots.keep, if_true, if_false, true_and, ↓ap_binOp, pop_binOp, isNilC_tmp, cond_false, pBinX_int, pI_lss]
        repeat (with_reducible refine And.intro ?_ ?_; · first | trivial | omega | (intro hg; simp only [Bool.and_eq_true, Bool.or_eq_true, Bool.not_eq_true', Bool.and_eq_false_iff, Bool.or_eq_false_iff, Bool.not_eq_false', decide_eq_true_eq, decide_eq_false_iff_not, eqNil] at hg; omega) | (simp only [List.length_append, List.length_map, List.length_range, List.length_replicate, List.length_take, List.length_drop, List.length_cons, List.length_nil, List.length_set, List.length_reverse]; omega))
        apply hK; clear hK K
        refine awp_seq (awp_cond (b := _) rfl (fun hb4 => ?_) (fun hb4 => ?_))
        · try simp only [decide_eq_true_eq] at hb4
          refine awp_skip ?_
          change Awp _ _ _ _ _ _ _
          refine awp_seq ?_
          refine awp_block ?_
          -- region 12  decimals.go:303
          refine awp_r [2, 4, 7, 9, 39, 40] (by rfl) ?_
          simp (decide := true) only [ev, putD, Slots.put, Slots.get, if_true, if_false, true_and, ↓ap_move, pop_move, ↓ap_fieldAddr, pop_fieldAddr, fa27_1, ↓ap_loadL, apL_mk, pLoad_one ag9, rd_ne', ne_eq, not_false_eq_true, ne_0q1_0q0.symm, ne_0q2_0q0.symm, rd_any, List.getD_cons_zero, List.getD_cons_succ, Nat.zero_add, lv_str, decA]
          repeat (with_reducible refine And.intro ?_ ?_; · first | trivial | omega | (intro hg; simp only [Bool.and_eq_true, Bool.or_eq_true, Bool.not_eq_true', Bool.and_eq_false_iff, Bool.or_eq_false_iff, Bool.not_eq_false', decide_eq_true_eq, decide_eq_false_iff_not, eqNil] at hg; omega) | (simp only [List.length_append, List.length_map, List.length_range, List.length_replicate, List.length_take, List.length_drop, List.length_cons, List.length_nil, List.length_set, List.length_reverse]; omega))
          refine aOps_callV (V := .str (fixS (natOf a.dig ^ (i + 1)) ((trN (natOf a.dig ^ i)).length + a.dig.length))) (by rfl) (by rfl) ((c_times w₀ _ (trN (natOf a.dig ^ i)) a.dig (trN_all _) da (by omega) (by omega)).val (by rw [trN_val, Nat.pow_succ])) ?_
          refine aOps_callV (V := .str (trN (natOf a.dig ^ (i + 1)))) (by rfl) (by rfl) ((c_trimLeft0 w₀ _ _ 48 (by decide)).val (by rw [trN_of (fixS_all _ _), natOf_fixS]; have := prod_lt (trN_all (natOf a.dig ^ i)) da; rw [trN_val, ← Nat.pow_succ] at this; exact this)) ?_
          simp (decide := true) only [aOps_nil, ev, putD, Slots.put, Slots.get, Slots.keep, if_true, if_false, true_and, ↓ap_assign, pop_assign]
          repeat (with_reducible refine And.intro ?_ ?_; · first | trivial | omega | (intro hg; simp only [Bool.and_eq_true, Bool.or_eq_true, Bool.not_eq_true', Bool.and_eq_false_iff, Bool.or_eq_false_iff, Bool.not_eq_false', decide_eq_true_eq, decide_eq_false_iff_not, eqNil] at hg; omega) | (simp only [List.length_append, List.length_map, List.length_range, List.length_replicate, List.length_take, List.length_drop, List.length_cons, List.length_nil, List.length_set, List.length_reverse]; omega))
          change Awp _ _ _ _ _ _ _
          -- region 13  decimals.go:302
          refine awp_r [2, 4, 7, 9, 39, 40] (by rfl) ?_
          simp (decide := true) only [aOps_nil, ev, absV, absS, putD, Slots.put, Slots.get, Slots.keep, if_true, if_false, true_and, ↓ap_binOp, pop_binOp, isNilC_int, cond_false, pBinX_int, pI_add, ↓ap_move, pop_move]
          try simp (disch := omega) only [wrap_i64]
          repeat (with_reducible refine And.intro ?_ ?_; · first | trivial | omega | (intro hg; simp only [Bool.and_eq_true, Bool.or_eq_true, Bool.not_eq_true', Bool.and_eq_false_iff, Bool.or_eq_false_iff, Bool.not_eq_false', decide_eq_true_eq, decide_eq_false_iff_not, eqNil] at hg; omega) | (simp only [List.length_append, List.length_map, List.length_range, List.length_replicate, List.length_take, List.length_drop, List.length_cons, List.length_nil, List.length_set, List.length_reverse]; omega))
          try simp only [thenA_normal]
          refine ⟨i + 1, rfl, Sub.refl _, by omega, by omega⟩
        · try simp only [decide_eq_false_iff_not] at hb4
          have hik : k = i := by omega
          subst hik
          have hsk : 0 ≤ a.scale * (i : Int) ∧ a.scale * (i : Int) ≤ 6138 := by
            have h1 : 0 ≤ a.scale * (i : Int) := Int.mul_nonneg ha2 (by omega)
            have h2 : a.scale * (i : Int) ≤ 62 * 99 := Int.mul_le_mul ha3 hk99 (by omega) (by omega)
            omega
          refine awp_exit ?_
          change Awp _ _ _ _ _ _ _
          -- region 14  decimals.go:305
          refine awp_rseq [4, 5] (by rfl) fun K hK => ?_
          simp (decide := true) only [ev, absV, absS, putD, Slots.put, Slots.get, if_true, if_false, true_and, ↓ap_fieldAddr, pop_fieldAddr, fa27_0, ↓ap_loadL, apL_mk, pLoad_one ag4, ↓ap_move, pop_move, ↓ag_move, agP, agQ_some, nthDst, gKnown_bool, guardB_bool_true, implies_true, ↓ag_binOp, pop_binOp, isNilC_int, cond_false, cv_binl, cp_binl, pBinX_int, pI_rem, pI_eql, ↓ap_pick, pop_pick, pPick_bool, pickV_cond_l, pickV_and, fa27_2, pLoad_one ag3, ↓ap_binOp, isNilC_tmp, pI_mul, rd_ne', ne_eq, not_false_eq_true, ne_0q1_0q0.symm, ne_0q2_0q0.symm, rd_any, List.getD_cons_zero, List.getD_cons_succ, Nat.zero_add, lv_bool, lv_int]
          try simp (disch := omega) only [Int.tmod_eq_emod_of_nonneg, wrap_i64]
          repeat (with_reducible refine And.intro ?_ ?_; · first | trivial | omega | (intro hg; simp only [Bool.and_eq_true, Bool.or_eq_true, Bool.not_eq_true', Bool.and_eq_false_iff, Bool.or_eq_false_iff, Bool.not_eq_false', decide_eq_true_eq, decide_eq_false_iff_not, eqNil] at hg; omega) | (simp only [List.length_append, List.length_map, List.length_range, List.length_replicate, List.length_take, List.length_drop, List.length_cons, List.length_nil, List.length_set, List.length_reverse]; omega))
          refine aOps_callV (V := .tuple [decA (normE (a.neg && decide ((i : Int) % 2 = 1)) (natOf a.dig ^ i) (a.scale * i)).1, .int .i64 (normE (a.neg && decide ((i : Int) % 2 = 1)) (natOf a.dig ^ i) (a.scale * i)).2]) (by rfl) (by rfl) ((c_normal w₀ _ _ _ _ (trN_all _) (by omega) (by omega) (by omega)).val (by rw [trN_val])) ?_
          simp (decide := true) only [ev, putD, Slots.put, Slots.get, if_true, if_false, true_and, ↓ap_extract, pop_extract, pExt_tuple, List.length_cons, List.length_nil, List.getD_cons_zero, List.getD_cons_succ, List.getD_cons_zero, List.getD_cons_succ, Nat.zero_add, Nat.reduceAdd, decA]
          repeat (with_reducible refine And.intro ?_ ?_; · first | trivial | omega | (intro hg; simp only [Bool.and_eq_true, Bool.or_eq_true, Bool.not_eq_true', Bool.and_eq_false_iff, Bool.or_eq_false_iff, Bool.not_eq_false', decide_eq_true_eq, decide_eq_false_iff_not, eqNil] at hg; omega) | (simp only [List.length_append, List.length_map, List.length_range, List.length_replicate, List.length_take, List.length_drop, List.length_cons, List.length_nil, List.length_set, List.length_reverse]; omega))
          refine aOps_store (by rfl) (by rfl) (by repeat (first | exact AHeap.set_same _ _ _ | assumption | refine (AHeap.set_ne _ _ (by first | assumption | exact Ne.symm (by assumption))).trans ?_)) sz27 (by rfl) (by rfl) (by first | exact Nat.le_refl _ | decide | (simp; done) | (simp; omega)) (Nat.zero_le _) (by rfl) ?_
          simp only [AHeap.set_set, AVal.cells]
          simp (decide := true) only [aOps_nil, ev, putD, Slots.put, Slots.get, Slots.keep, if_true, if_false, true_and, ↓ap_assign, pop_assign, setAt, List.set_cons_zero, List.set_cons_succ, Nat.zero_add, Nat.reduceAdd]
          repeat (with_reducible refine And.intro ?_ ?_; · first | trivial | omega | (intro hg; simp only [Bool.and_eq_true, Bool.or_eq_true, Bool.not_eq_true', Bool.and_eq_false_iff, Bool.or_eq_false_iff, Bool.not_eq_false', decide_eq_true_eq, decide_eq_false_iff_not, eqNil] at hg; omega) | (simp only [List.length_append, List.length_map, List.length_range, List.length_replicate, List.length_take, List.length_drop, List.length_cons, List.length_nil, List.length_set, List.length_reverse]; omega))
          apply hK; clear hK K
          refine awp_ret ?_
          try simp only [thenA_ret, inBlockA_ret]
          refine retA_ret h (by repeat (first | exact Sub.refl _ | assumption | refine Sub.trans_set ?_ (by assumption))) (?_) ?_
          · simp (decide := true) only [resPre, resV_tmp, resV_cell, Slots.get, if_true, if_false, and_true, resV_tmp, resV_cell, pLoad_agg ag27 sz27, rd_set, cellsAt, List.getD_cons_zero, List.getD_cons_succ, Nat.zero_add, Nat.reduceAdd, lv_bool, lv_int, lv_str, allLive, Bool.and_true, cellsAt, List.getD_cons_zero, List.getD_cons_succ, Nat.zero_add, Nat.reduceAdd, lv_bool, lv_int, lv_str, allLive, Bool.and_true]
          
          simp (decide := true) only [Slots.get, if_true, if_false, and_true, resOfG_two, resV_tmp, resV_cell, pLoad_agg ag27 sz27, rd_set, cellsAt, List.getD_cons_zero, List.getD_cons_succ, Nat.zero_add, Nat.reduceAdd, lv_bool, lv_int, lv_str, allLive, Bool.and_true, cellsAt, List.getD_cons_zero, List.getD_cons_succ, Nat.zero_add, Nat.reduceAdd, lv_bool, lv_int, lv_str, allLive, Bool.and_true, decA]
          rw [powE, if_pos ⟨ca, cn⟩, hke, if_neg hb2, if_neg (by omega), Int.toNat_natCast]

theorem c_of12 (w₀ : World) (ht : Tab10 w₀) (h : AHeap) (n s : Int) (h0 : -1000000 ≤ n) (h1 : n ≤ 1000000) (s0 : 0 ≤ s) (s1 : s ≤ 1000) :
    ACall Tryz.prog w₀ 30 [.int .i64 n, .int .i64 s] h (fun v h' => v = decA (canon (decide (n < 0)) n.natAbs s.toNat) ∧ h' = h) := by
  refine acall_intro (n := 16) (rs := [.cell 4 27]) Tryz.func30 rfl rfl rfl rfl (Nat.le_of_ble_eq_true rfl) ?_
  simp only [initSlots]
  -- region 0  law.go:167
  refine awp_rseq [0, 1, 4] (by rfl) fun K hK => ?_
  refine aOps_alloc ze27 (cs := [.bool false, .str [], .int .i64 0]) (by rfl) fun k0q0 hk0q0 => ?_
  try have hf_0q0 : h k0q0 = none := by first | assumption | (simp only [AHeap.set_none] at hk0q0; simp only [hk0q0])
  simp (decide := true) only [aOps_nil, putD, Slots.put, Slots.keep, if_true, if_false, Nat.zero_add]
  repeat (with_reducible refine And.intro ?_ ?_; · first | trivial | omega | (intro hg; simp only [Bool.and_eq_true, Bool.or_eq_true, Bool.not_eq_true', Bool.and_eq_false_iff, Bool.or_eq_false_iff, Bool.not_eq_false', decide_eq_true_eq, decide_eq_false_iff_not, eqNil] at hg; omega) )
  apply hK; clear hK K
  -- region 1  law.go:168
  refine awp_rseq [0, 1, 4, 5] (by rfl) fun K hK => ?_
  simp (decide := true) only [ev, putD, Slots.put, Slots.get, if_true, if_false, true_and, ↓ap_move, pop_move, ↓ap_unOp, pop_unOp, pU_neg, ↓ap_max, pop_max, pMax_int, evs, List.map_cons, List.map_nil]
  try simp (disch := omega) only [wrap_i64]
  repeat (with_reducible refine And.intro ?_ ?_; · first | trivial | omega | (intro hg; simp only [Bool.and_eq_true, Bool.or_eq_true, Bool.not_eq_true', Bool.and_eq_false_iff, Bool.or_eq_false_iff, Bool.not_eq_false', decide_eq_true_eq, decide_eq_false_iff_not, eqNil] at hg; omega) )
  refine aOps_callV (V := .str (decDigits n.natAbs)) (by rfl) (by rfl) ((c_itoa w₀ ht _ (max n (0 - n)) (by omega) (by omega)).val (by rw [Lib.itoa, if_neg (by omega)]; congr 2; omega)) ?_
  simp (decide := true) only [aOps_nil, ev, putD, Slots.put, Slots.get, Slots.keep, if_true, if_false, true_and, ↓ap_assign, pop_assign]
  repeat (with_reducible refine And.intro ?_ ?_; · first | trivial | omega | (intro hg; simp only [Bool.and_eq_true, Bool.or_eq_true, Bool.not_eq_true', Bool.and_eq_false_iff, Bool.or_eq_false_iff, Bool.not_eq_false', decide_eq_true_eq, decide_eq_false_iff_not, eqNil] at hg; omega) )
  apply hK; clear hK K
  -- region 2  law.go:169
  refine awp_rseq [4] (by rfl) fun K hK => ?_
  simp (decide := true) only [ev, absV, absS, putD, Slots.put, Slots.get, if_true, if_false, true_and, ↓ap_move, pop_move, ↓ap_binOp, pop_binOp, isNilC_int, cond_false, pBinX_int, pI_lss]
  repeat (with_reducible refine And.intro ?_ ?_; · first | trivial | omega | (intro hg; simp only [Bool.and_eq_true, Bool.or_eq_true, Bool.not_eq_true', Bool.and_eq_false_iff, Bool.or_eq_false_iff, Bool.not_eq_false', decide_eq_true_eq, decide_eq_false_iff_not, eqNil] at hg; omega) )
  refine aOps_callV (V := decA (canon (decide (n < 0)) n.natAbs s.toNat)) (by rfl) (by rfl) ((c_Normal w₀ _ _ _ _ (decDigits_all _) (Nat.le_trans ((decDigits_lt (show 0 < 9 by omega)).2 (by omega)) (by omega)) s0 (by omega)).val (by rw [natOf_decDigits])) ?_
  refine aOps_store (by rfl) (by rfl) (by repeat (first | exact AHeap.set_same _ _ _ | assumption | refine (AHeap.set_ne _ _ (by first | assumption | exact Ne.symm (by assumption))).trans ?_)) sz27 (by rfl) (by rfl) (by first | exact Nat.le_refl _ | decide | (simp; done) | (simp; omega)) (Nat.zero_le _) (by rfl) ?_
  simp only [AHeap.set_set, AVal.cells]
  simp (decide := true) only [aOps_nil, ev, putD, Slots.put, Slots.get, Slots.keep, if_true, if_false, setAt, List.set_cons_zero, List.set_cons_succ, Nat.zero_add, Nat.reduceAdd, decA]
  repeat (with_reducible refine And.intro ?_ ?_; · first | trivial | omega | (intro hg; simp only [Bool.and_eq_true, Bool.or_eq_true, Bool.not_eq_true', Bool.and_eq_false_iff, Bool.or_eq_false_iff, Bool.not_eq_false', decide_eq_true_eq, decide_eq_false_iff_not, eqNil] at hg; omega) )
  apply hK; clear hK K
  refine awp_ret ?_
  try simp only [thenA_ret, inBlockA_ret]
  refine retA_ret h (by repeat (first | exact Sub.refl _ | assumption | refine Sub.trans_set ?_ (by assumption))) (?_) ?_
  · simp (decide := true) only [resPre, resV_cell, Slots.get, if_true, and_true, resV_cell, pLoad_agg ag27 sz27, rd_set, cellsAt, List.getD_cons_zero, List.getD_cons_succ, Nat.zero_add, Nat.reduceAdd, lv_bool, lv_int, lv_str, allLive, Bool.and_true, cellsAt, List.getD_cons_zero, List.getD_cons_succ, Nat.zero_add, Nat.reduceAdd, lv_bool, lv_int, lv_str, allLive, Bool.and_true]
  
  simp (decide := true) only [Slots.get, if_true, and_true, resOfG_one, resV_cell, pLoad_agg ag27 sz27, rd_set, cellsAt, List.getD_cons_zero, List.getD_cons_succ, Nat.zero_add, Nat.reduceAdd, lv_bool, lv_int, lv_str, allLive, Bool.and_true, cellsAt, List.getD_cons_zero, List.getD_cons_succ, Nat.zero_add, Nat.reduceAdd, lv_bool, lv_int, lv_str, allLive, Bool.and_true, decA]
  all_goals first | rfl | exact ⟨rfl, rfl⟩ | (simp (decide := true) only [if_true, if_false, *]; done) | (trace_state; fail)
end Go.Proofs.YthiiakghjoeikaaGreatDoor

/-
  The examples of the chapter hold.
  Conditions: none.
-/
namespace Go.Proofs.YthiiakghjoeikaaGreatDoor
open Go.AM
open Go.Proofs
open Go.Dec
open Go.Lib (decDigits)
set_option maxRecDepth 100000

def pS (i : Nat) : List UInt8 := [[45, 48, 49, 50, 46, 53, 48], [46, 53], [53, 46], [45]].getD i []
def pD (i : Nat) : D := [⟨true, [49, 50, 53], 1⟩, ⟨false, [53], 1⟩, noD, noD].getD i noD
def pE (i : Nat) : Int := [0, 0, 4, 4].getD i 0
theorem ex_parse (i : Nat) (hi : i < 4) : parseE (pS i) = (pD i, pE i) := by
  match i, hi with
  | 0, _ => exact (show (_ : D × Int) = _ by kernel_rfl)
  | 1, _ => exact (show (_ : D × Int) = _ by kernel_rfl)
  | 2, _ => exact (show (_ : D × Int) = _ by kernel_rfl)
  | 3, _ => exact (show (_ : D × Int) = _ by kernel_rfl)
theorem ex_add : addE (canon false 1 1) (canon false 25 2) = (canon false 35 2, 0) := by kernel_rfl
theorem ex_sub : subE (canon false 1 0) (canon false 1 0) = (canon false 0 0, 0) := by kernel_rfl
theorem ex_mul : mulE (canon true 15 1) (canon false 4 1) = (canon true 6 1, 0) := by kernel_rfl
def exQ : D := ⟨false, List.replicate 30 54, 30⟩
theorem ex_div : divE (canon false 2 0) (canon false 3 0) = (exQ, 0) := by kernel_rfl
theorem ex_div0 : divE (canon false 1 0) (canon false 0 0) = (noD, 7) := by kernel_rfl
theorem ex_pow : powE (canon false 11 1) (canon false 3 0) = (canon false 1331 3, 0) := by kernel_rfl
theorem ex_cut1 : cutE (canon true 1257 2) 1 = (canon true 125 1, false, 0) := by kernel_rfl
theorem ex_cut2 : cutE (canon false 1250 0) (-2) = (canon false 1200 0, false, 0) := by kernel_rfl
theorem ex_text : textE exQ = [48, 46, 54, 54, 54, 54, 54, 54, 54, 54, 54, 54, 54, 54, 54, 54, 54, 54, 54, 54, 54, 54, 54, 54, 54, 54, 54, 54, 54, 54, 54, 54] := by kernel_rfl
theorem canon_lenD (neg : Bool) (n k : Nat) (hn : n < 10 ^ 62) : (canon neg n k).dig.length ≤ 9223372036854775807 := by
  have hs : ∀ (k m : Nat), m < 10 ^ 62 → (strip m k).1 < 10 ^ 62 := fun k => by
    induction k with
    | zero => intro m hm; exact hm
    | succ k ih =>
      intro m hm
      unfold strip
      split
      · exact ih _ (Nat.lt_of_le_of_lt (Nat.div_le_self _ _) hm)
      · exact hm
  unfold canon
  split
  · exact (by decide : ([48] : List UInt8).length ≤ 9223372036854775807)
  · have := (decDigits_lt (n := (strip n k).1) (k := 62) (by omega)).2 (hs k n hn)
    show (decDigits (strip n k).1).length ≤ _
    omega
set_option maxHeartbeats 4000000 in
theorem c_lives12 (w₀ : World) (ht : Tab10 w₀) (he : Errs w₀) (h : AHeap) : ACall Tryz.prog w₀ 13 [] h (fun v h' => v = .bool true ∧ h' = h) := by
  refine acall_intro (n := 182) (rs := [.tmp 0]) Tryz.func13 rfl rfl rfl rfl (Nat.le_of_ble_eq_true rfl) ?_
  simp only [initSlots]
  -- region 0  law.go:143
  refine awp_rseq [] (by rfl) fun K hK => ?_
  simp (decide := true) only [aOps_nil, ev, absV, absS, putD, Slots.put, Slots.keep, if_false, true_and, ↓ap_assign, pop_assign]
  repeat (with_reducible refine And.intro ?_ ?_; · first | trivial | omega | (intro hg; simp only [Bool.and_eq_true, Bool.or_eq_true, Bool.not_eq_true', Bool.and_eq_false_iff, Bool.or_eq_false_iff, Bool.not_eq_false', decide_eq_true_eq, decide_eq_false_iff_not, eqNil] at hg; omega) )
  apply hK; clear hK K
  -- region 1  law.go:144
  refine awp_rseq [1] (by rfl) fun K hK => ?_
  refine aOps_buildSlice (cs := [.str [45, 48, 49, 50, 46, 53, 48], .str [46, 53], .str [53, 46], .str [45]]) (by kernel_rfl) fun k1q0 hk1q0 => ?_
  try have hf_1q0 : h k1q0 = none := by first | assumption | (simp only [AHeap.set_none] at hk1q0; simp only [hk1q0])
  simp (decide := true) only [aOps_nil, ev, putD, Slots.put, Slots.get, Slots.keep, if_true, if_false, true_and, ↓ap_assign, pop_assign]
  repeat (with_reducible refine And.intro ?_ ?_; · first | trivial | omega | (intro hg; simp only [Bool.and_eq_true, Bool.or_eq_true, Bool.not_eq_true', Bool.and_eq_false_iff, Bool.or_eq_false_iff, Bool.not_eq_false', decide_eq_true_eq, decide_eq_false_iff_not, eqNil] at hg; omega) )
  apply hK; clear hK K
  -- region 2  law.go:145
  refine awp_rseq [1, 2] (by rfl) fun K hK => ?_
  simp (decide := true) only [ev, absV, absS, putD, Slots.put, Slots.get, if_false, true_and, ↓ap_build, ↓pop_buildL, bld27_0_1_2, evP, List.map_cons, List.map_nil, bld27_1_2, bld27_]
  repeat (with_reducible refine And.intro ?_ ?_; · first | trivial | omega | (intro hg; simp only [Bool.and_eq_true, Bool.or_eq_true, Bool.not_eq_true', Bool.and_eq_false_iff, Bool.or_eq_false_iff, Bool.not_eq_false', decide_eq_true_eq, decide_eq_false_iff_not, eqNil] at hg; omega) )
  refine aOps_buildSlice (cs := [.bool true, .str [49, 50, 53], .int .i64 1, .bool false, .str [53], .int .i64 1, .bool false, .str [], .int .i64 0, .bool false, .str [], .int .i64 0]) (by kernel_rfl) fun k2q4 hk2q4 => ?_
  have ne_2q4_1q0 : k2q4 ≠ k1q0 := by simp only [AHeap.set_none] at hk2q4; simp only [hk2q4, ne_eq, not_false_eq_true]
  try have hf_2q4 : h k2q4 = none := by first | assumption | (simp only [AHeap.set_none] at hk2q4; simp only [hk2q4])
  simp (decide := true) only [aOps_nil, ev, putD, Slots.put, Slots.get, Slots.keep, if_true, if_false, true_and, ↓ap_assign, pop_assign]
  repeat (with_reducible refine And.intro ?_ ?_; · first | trivial | omega | (intro hg; simp only [Bool.and_eq_true, Bool.or_eq_true, Bool.not_eq_true', Bool.and_eq_false_iff, Bool.or_eq_false_iff, Bool.not_eq_false', decide_eq_true_eq, decide_eq_false_iff_not, eqNil] at hg; omega) )
  apply hK; clear hK K
  refine awp_seq ?_
  -- region 3  law.go:146
  refine awp_rseq [1, 2, 3] (by rfl) fun K hK => ?_
  simp (decide := true) only [aOps_nil, ev, absV, absS, putD, Slots.put, Slots.keep, if_true, if_false, true_and, ↓ap_assign, pop_assign]
  repeat (with_reducible refine And.intro ?_ ?_; · first | trivial | omega | (intro hg; simp only [Bool.and_eq_true, Bool.or_eq_true, Bool.not_eq_true', Bool.and_eq_false_iff, Bool.or_eq_false_iff, Bool.not_eq_false', decide_eq_true_eq, decide_eq_false_iff_not, eqNil] at hg; omega) )
  apply hK; clear hK K
  refine awp_block ?_
  refine awp_loopG [1, 2, 3] (fun i : Nat => [(1, .slice (.own k1q0) 0 4 (.exact 4)), (2, .slice (.own k2q4) 0 4 (.exact 4)), (3, .int .i64 i)]) (fun i : Nat => (h.set k1q0 ⟨[.str [45, 48, 49, 50, 46, 53, 48], .str [46, 53], .str [53, 46], .str [45]], 0⟩).set k2q4 ⟨[.bool true, .str [49, 50, 53], .int .i64 1, .bool false, .str [53], .int .i64 1, .bool false, .str [], .int .i64 0, .bool false, .str [], .int .i64 0], 0⟩) (fun i : Nat => i ≤ 4) (fun i : Nat => 4 - i) 0 (by rfl) (Sub.refl _) (by omega) ?_
  intro i hi
  refine awp_seq ?_
  -- region 4  law.go:146
  refine awp_rseq [1, 2, 3, 31] (by rfl) fun K hK => ?_
  simp (decide := true) only [aOps_nil, ev, absV, absS, putD, Slots.put, Slots.get, Slots.keep, if_true, if_false, true_and, ↓ap_move, pop_move, ↓ap_binOp, pop_binOp, isNilC_int, cond_false, pBinX_int, pI_lss]
  repeat (with_reducible refine And.intro ?_ ?_; · first | trivial | omega | (intro hg; simp only [Bool.and_eq_true, Bool.or_eq_true, Bool.not_eq_true', Bool.and_eq_false_iff, Bool.or_eq_false_iff, Bool.not_eq_false', decide_eq_true_eq, decide_eq_false_iff_not, eqNil] at hg; omega) )
  apply hK; clear hK K
  refine awp_cond (b := _) rfl (fun hb1 => ?_) (fun hb1 => ?_)
  · try simp only [decide_eq_true_eq] at hb1
    have hi4 : i < 4 := by omega
    have hps : ([.str [45, 48, 49, 50, 46, 53, 48], .str [46, 53], .str [53, 46], .str [45]] : List AVal).getD i .dead = .str (pS i) := by
      match i, hi4 with
      | 0, _ => rfl
      | 1, _ => rfl
      | 2, _ => rfl
      | 3, _ => rfl
    have hd0 : ([.bool true, .str [49, 50, 53], .int .i64 1, .bool false, .str [53], .int .i64 1, .bool false, .str [], .int .i64 0, .bool false, .str [], .int .i64 0] : List AVal).getD (i * 3) .dead = .bool (pD i).neg := by
      match i, hi4 with
      | 0, _ => rfl
      | 1, _ => rfl
      | 2, _ => rfl
      | 3, _ => rfl
    have hd1 : ([.bool true, .str [49, 50, 53], .int .i64 1, .bool false, .str [53], .int .i64 1, .bool false, .str [], .int .i64 0, .bool false, .str [], .int .i64 0] : List AVal).getD (i * 3 + 1) .dead = .str (pD i).dig := by
      match i, hi4 with
      | 0, _ => rfl
      | 1, _ => rfl
      | 2, _ => rfl
      | 3, _ => rfl
    have hd2 : ([.bool true, .str [49, 50, 53], .int .i64 1, .bool false, .str [53], .int .i64 1, .bool false, .str [], .int .i64 0, .bool false, .str [], .int .i64 0] : List AVal).getD (i * 3 + 1 + 1) .dead = .int .i64 (pD i).scale := by
      match i, hi4 with
      | 0, _ => rfl
      | 1, _ => rfl
      | 2, _ => rfl
      | 3, _ => rfl
    have hpl : (pS i).length ≤ 100 := by
      match i, hi4 with
      | 0, _ => decide
      | 1, _ => decide
      | 2, _ => decide
      | 3, _ => decide
    have hpe : (i < 2 ∧ pE i = 0) ∨ (2 ≤ i ∧ pE i = 4) := by
      match i, hi4 with
      | 0, _ => exact .inl (by decide)
      | 1, _ => exact .inl (by decide)
      | 2, _ => exact .inr (by decide)
      | 3, _ => exact .inr (by decide)
    refine awp_skip ?_
    change Awp _ _ _ _ _ _ _
    refine awp_seq ?_
    refine awp_block ?_
    -- region 6  law.go:147
    refine awp_rseq [1, 2, 3, 4, 5] (by rfl) fun K hK => ?_
    simp (decide := true) only [ev, putD, Slots.put, Slots.get, if_true, if_false, true_and, ↓ap_move, pop_move, ↓ap_indexAddrL, apL_mk, pIndexAddr_slice Tryz.underlying65 sz9, ↓ap_loadL, pLoad_one ag9, rd_ne', ne_eq, not_false_eq_true, ne_2q4_1q0.symm, rd_any, Nat.zero_add, lv_str, Int.toNat_natCast, Nat.mul_one, hps]
    repeat (with_reducible refine And.intro ?_ ?_; · first | trivial | omega | (intro hg; simp only [Bool.and_eq_true, Bool.or_eq_true, Bool.not_eq_true', Bool.and_eq_false_iff, Bool.or_eq_false_iff, Bool.not_eq_false', decide_eq_true_eq, decide_eq_false_iff_not, eqNil] at hg; omega) )
    refine aOps_callV (V := .tuple [decA (pD i), .int .i64 (pE i)]) (by rfl) (by rfl) ((c_Parse w₀ _ (pS i) (by omega)).val (by rw [ex_parse i hi4])) ?_
    simp (decide := true) only [ev, putD, Slots.put, Slots.get, if_true, if_false, true_and, ↓ap_move, pop_move, ↓ap_extract, pop_extract, pExt_tuple, List.length_cons, List.length_nil, List.getD_cons_zero, List.getD_cons_succ, List.getD_cons_zero, List.getD_cons_succ, Nat.zero_add, Nat.reduceAdd, decA]
    repeat (with_reducible refine And.intro ?_ ?_; · first | trivial | omega | (intro hg; simp only [Bool.and_eq_true, Bool.or_eq_true, Bool.not_eq_true', Bool.and_eq_false_iff, Bool.or_eq_false_iff, Bool.not_eq_false', decide_eq_true_eq, decide_eq_false_iff_not, eqNil] at hg; omega) )
    refine aOps_alloc ze27 (cs := [.bool false, .str [], .int .i64 0]) (by rfl) fun k6q8 hk6q8 => ?_
    have ne_6q8_1q0 : k6q8 ≠ k1q0 := by simp only [AHeap.set_none] at hk6q8; simp only [hk6q8, ne_eq, not_false_eq_true]
    have ne_6q8_2q4 : k6q8 ≠ k2q4 := by simp only [AHeap.set_none] at hk6q8; simp only [hk6q8, ne_eq, not_false_eq_true]
    try have hf_6q8 : h k6q8 = none := by first | assumption | (simp only [AHeap.set_none] at hk6q8; simp only [hk6q8])
    refine aOps_store (by rfl) (by rfl) (by repeat (first | exact AHeap.set_same _ _ _ | assumption | refine (AHeap.set_ne _ _ (by first | assumption | exact Ne.symm (by assumption))).trans ?_)) sz27 (by rfl) (by rfl) (by first | exact Nat.le_refl _ | decide | (simp; done) | (simp; omega)) (Nat.zero_le _) (by rfl) ?_
    simp only [AHeap.set_set, AVal.cells]
    simp (decide := true) only [aOps_nil, ev, putD, Slots.put, Slots.get, Slots.keep, if_true, if_false, true_and, ↓ap_assign, pop_assign, setAt, List.set_cons_zero, List.set_cons_succ, Nat.zero_add, Nat.reduceAdd]
    repeat (with_reducible refine And.intro ?_ ?_; · first | trivial | omega | (intro hg; simp only [Bool.and_eq_true, Bool.or_eq_true, Bool.not_eq_true', Bool.and_eq_false_iff, Bool.or_eq_false_iff, Bool.not_eq_false', decide_eq_true_eq, decide_eq_false_iff_not, eqNil] at hg; omega) )
    apply hK; clear hK K
    -- region 7  law.go:148
    refine awp_dseq_all [1, 2, 3, 62] mixed (by kernel_rfl) (by rfl) (by rfl) fun K hK => ?_
    simp (decide := true) only [aOps_nil, ev, absV, absS, putD, Slots.put, Slots.get, Slots.keep, if_true, if_false, true_and, ↓ap_loadL, apL_mk, pLoad_agg ag27 sz27, ↓ap_move, pop_move, ↓ap_indexAddrL, pIndexAddr_slice Tryz.underlying66 sz27, ↓ap_binOp, pop_binOp, isNilC_tmp, cond_false, pBinX_agg, ne27, ↓ag_move, agP, agQ_some, nthDst, gKnown_bool, gKnown_cond, guardB_cond, guardB_bool_true, guardB_bool_false, cv_cv, implies_true, Bool.not_not, decide_true, Bool.and_true, ↓ag_binOp, isNilC_int, cv_binl, cv_binr, cp_binl, cp_binr, pBinX_int, pI_eql, pI_lss, pBinX_bne, Tryz.underlying4, ↓ap_pick, pop_pick, pPick_bool, pickV_cond_r, pickV_cond_rn, cp_nest1, pickV_and, pickV_or, pI_gtr, pI_neq, ↓ag_pick, cv_pick, cp_pick, rd_ne', ne_eq, not_false_eq_true, ne_6q8_2q4.symm, rd_any, cellsAt, List.getD_cons_zero, List.getD_cons_succ, Nat.zero_add, Nat.reduceAdd, lv_bool, lv_int, lv_str, allLive, Bool.and_true, Int.toNat_natCast, hd0, hd1, hd2]
    repeat (with_reducible refine And.intro ?_ ?_; · first | trivial | omega | (intro hg; simp only [Bool.and_eq_true, Bool.or_eq_true, Bool.not_eq_true', Bool.and_eq_false_iff, Bool.or_eq_false_iff, Bool.not_eq_false', decide_eq_true_eq, decide_eq_false_iff_not, eqNil] at hg; omega) )
    apply hK; clear hK K
    refine awp_cond (b := _) rfl (fun hb2 => ?_) (fun hb2 => ?_)
    · try simp only [decide_eq_true_eq, decide_eq_false_iff_not, Bool.not_eq_true', Bool.and_eq_true, Bool.or_eq_true] at hb2
      exfalso
      rcases hpe with ⟨h1, h2⟩ | ⟨h1, h2⟩
      · rw [h2] at hb2; simp at hb2; omega
      · rw [h2] at hb2; simp at hb2; omega
    · try simp only [decide_eq_true_eq, decide_eq_false_iff_not, Bool.not_eq_false', Bool.and_eq_false_iff, Bool.or_eq_false_iff] at hb2
      refine awp_skip ?_
      change Awp _ _ _ _ _ _ _
      -- region 5  law.go:146
      refine awp_r [1, 2, 3] (by rfl) ?_
      simp (decide := true) only [aOps_nil, ev, absV, absS, putD, Slots.put, Slots.get, Slots.keep, if_true, if_false, true_and, ↓ap_move, pop_move, ↓ap_binOp, pop_binOp, isNilC_int, cond_false, pBinX_int, pI_add, ↓ap_assign, pop_assign]
      try simp (disch := omega) only [wrap_i64]
      repeat (with_reducible refine And.intro ?_ ?_; · first | trivial | omega | (intro hg; simp only [Bool.and_eq_true, Bool.or_eq_true, Bool.not_eq_true', Bool.and_eq_false_iff, Bool.or_eq_false_iff, Bool.not_eq_false', decide_eq_true_eq, decide_eq_false_iff_not, eqNil] at hg; omega) )
      try simp only [thenA_normal]
      refine ⟨i + 1, rfl, (by repeat (first | exact Sub.refl _ | refine Sub.trans_set ?_ (by assumption))), by omega, by omega⟩
  · try simp only [decide_eq_false_iff_not] at hb1
    refine awp_exit ?_
    change Awp _ _ _ _ _ _ _
    -- region 9  law.go:152
    refine awp_rseq [6, 7] (by rfl) fun K hK => ?_
    refine aOps_callV (V := decA (canon false 1 1)) (by rfl) (by rfl) ((c_of12 w₀ ht _ 1 1 (by omega) (by omega) (by omega) (by omega)).val rfl) ?_
    refine aOps_callV (V := decA (canon false 25 2)) (by rfl) (by rfl) ((c_of12 w₀ ht _ 25 2 (by omega) (by omega) (by omega) (by omega)).val rfl) ?_
    refine aOps_callV (V := .tuple [decA (canon false 35 2), .int .i64 0]) (by rfl) (by rfl) ((c_Add w₀ _ (canon false 1 1) (canon false 25 2) (canon_lenD _ _ _ (by decide +kernel)) (canon_lenD _ _ _ (by decide +kernel))).val (by rw [ex_add])) ?_
    simp (decide := true) only [ev, putD, Slots.put, Slots.get, if_true, if_false, true_and, ↓ap_move, pop_move, ↓ap_extract, pop_extract, pExt_tuple, List.getD_cons_zero, List.getD_cons_succ, List.getD_cons_zero, List.getD_cons_succ, decA]
    repeat (with_reducible refine And.intro ?_ ?_; · first | trivial | omega | (intro hg; simp only [Bool.and_eq_true, Bool.or_eq_true, Bool.not_eq_true', Bool.and_eq_false_iff, Bool.or_eq_false_iff, Bool.not_eq_false', decide_eq_true_eq, decide_eq_false_iff_not, eqNil] at hg; omega) )
    refine aOps_alloc ze27 (cs := [.bool false, .str [], .int .i64 0]) (by rfl) fun k9q6 hk9q6 => ?_
    have ne_9q6_1q0 : k9q6 ≠ k1q0 := by simp only [AHeap.set_none] at hk9q6; simp only [hk9q6, ne_eq, not_false_eq_true]
    have ne_9q6_2q4 : k9q6 ≠ k2q4 := by simp only [AHeap.set_none] at hk9q6; simp only [hk9q6, ne_eq, not_false_eq_true]
    try have hf_9q6 : h k9q6 = none := by first | assumption | (simp only [AHeap.set_none] at hk9q6; simp only [hk9q6])
    refine aOps_store (by rfl) (by rfl) (by repeat (first | exact AHeap.set_same _ _ _ | assumption | refine (AHeap.set_ne _ _ (by first | assumption | exact Ne.symm (by assumption))).trans ?_)) sz27 (by rfl) (by rfl) (by first | exact Nat.le_refl _ | decide | (simp; done) | (simp; omega)) (Nat.zero_le _) (by rfl) ?_
    simp only [AHeap.set_set, AVal.cells]
    simp (decide := true) only [aOps_nil, ev, putD, Slots.put, Slots.get, Slots.keep, if_true, if_false, true_and, ↓ap_assign, pop_assign, setAt, List.set_cons_zero, List.set_cons_succ, Nat.zero_add, Nat.reduceAdd]
    repeat (with_reducible refine And.intro ?_ ?_; · first | trivial | omega | (intro hg; simp only [Bool.and_eq_true, Bool.or_eq_true, Bool.not_eq_true', Bool.and_eq_false_iff, Bool.or_eq_false_iff, Bool.not_eq_false', decide_eq_true_eq, decide_eq_false_iff_not, eqNil] at hg; omega) )
    apply hK; clear hK K
    -- region 10  law.go:153
    refine awp_rseq [6, 7, 8, 9] (by rfl) fun K hK => ?_
    refine aOps_callV (V := decA (canon false 1 0)) (by rfl) (by rfl) ((c_of12 w₀ ht _ 1 0 (by omega) (by omega) (by omega) (by omega)).val rfl) ?_
    refine aOps_callV (V := decA (canon false 1 0)) (by rfl) (by rfl) ((c_of12 w₀ ht _ 1 0 (by omega) (by omega) (by omega) (by omega)).val rfl) ?_
    refine aOps_callV (V := .tuple [decA (canon false 0 0), .int .i64 0]) (by rfl) (by rfl) ((c_Sub w₀ _ (canon false 1 0) (canon false 1 0) (canon_lenD _ _ _ (by decide +kernel)) (canon_lenD _ _ _ (by decide +kernel))).val (by rw [ex_sub])) ?_
    simp (decide := true) only [ev, putD, Slots.put, Slots.get, if_true, if_false, true_and, ↓ap_move, pop_move, ↓ap_extract, pop_extract, pExt_tuple, List.getD_cons_zero, List.getD_cons_succ, List.getD_cons_zero, List.getD_cons_succ, decA]
    repeat (with_reducible refine And.intro ?_ ?_; · first | trivial | omega | (intro hg; simp only [Bool.and_eq_true, Bool.or_eq_true, Bool.not_eq_true', Bool.and_eq_false_iff, Bool.or_eq_false_iff, Bool.not_eq_false', decide_eq_true_eq, decide_eq_false_iff_not, eqNil] at hg; omega) )
    refine aOps_alloc ze27 (cs := [.bool false, .str [], .int .i64 0]) (by rfl) fun k10q6 hk10q6 => ?_
    have ne_10q6_1q0 : k10q6 ≠ k1q0 := by simp only [AHeap.set_none] at hk10q6; simp only [hk10q6, ne_eq, not_false_eq_true]
    have ne_10q6_2q4 : k10q6 ≠ k2q4 := by simp only [AHeap.set_none] at hk10q6; simp only [hk10q6, ne_eq, not_false_eq_true]
    have ne_10q6_9q6 : k10q6 ≠ k9q6 := by simp only [AHeap.set_none] at hk10q6; simp only [hk10q6, ne_eq, not_false_eq_true]
    try have hf_10q6 : h k10q6 = none := by first | assumption | (simp only [AHeap.set_none] at hk10q6; simp only [hk10q6])
    refine aOps_store (by rfl) (by rfl) (by repeat (first | exact AHeap.set_same _ _ _ | assumption | refine (AHeap.set_ne _ _ (by first | assumption | exact Ne.symm (by assumption))).trans ?_)) sz27 (by rfl) (by rfl) (by first | exact Nat.le_refl _ | decide | (simp; done) | (simp; omega)) (Nat.zero_le _) (by rfl) ?_
    simp only [AHeap.set_set, AVal.cells]
    simp (decide := true) only [aOps_nil, ev, putD, Slots.put, Slots.get, Slots.keep, if_true, if_false, true_and, ↓ap_assign, pop_assign, setAt, List.set_cons_zero, List.set_cons_succ, Nat.zero_add, Nat.reduceAdd]
    repeat (with_reducible refine And.intro ?_ ?_; · first | trivial | omega | (intro hg; simp only [Bool.and_eq_true, Bool.or_eq_true, Bool.not_eq_true', Bool.and_eq_false_iff, Bool.or_eq_false_iff, Bool.not_eq_false', decide_eq_true_eq, decide_eq_false_iff_not, eqNil] at hg; omega) )
    apply hK; clear hK K
    -- region 11  law.go:154
    refine awp_rseq [6, 7, 8, 9, 10, 11] (by rfl) fun K hK => ?_
    refine aOps_callV (V := decA (canon true 15 1)) (by rfl) (by rfl) ((c_of12 w₀ ht _ (-15) 1 (by omega) (by omega) (by omega) (by omega)).val rfl) ?_
    refine aOps_callV (V := decA (canon false 4 1)) (by rfl) (by rfl) ((c_of12 w₀ ht _ 4 1 (by omega) (by omega) (by omega) (by omega)).val rfl) ?_
    refine aOps_callV (V := .tuple [decA (canon true 6 1), .int .i64 0]) (by rfl) (by rfl) ((c_Mul w₀ _ (canon true 15 1) (canon false 4 1) (canon_lenD _ _ _ (by decide +kernel)) (canon_lenD _ _ _ (by decide +kernel))).val (by rw [ex_mul])) ?_
    simp (decide := true) only [ev, putD, Slots.put, Slots.get, if_true, if_false, true_and, ↓ap_move, pop_move, ↓ap_extract, pop_extract, pExt_tuple, List.getD_cons_zero, List.getD_cons_succ, List.getD_cons_zero, List.getD_cons_succ, decA]
    repeat (with_reducible refine And.intro ?_ ?_; · first | trivial | omega | (intro hg; simp only [Bool.and_eq_true, Bool.or_eq_true, Bool.not_eq_true', Bool.and_eq_false_iff, Bool.or_eq_false_iff, Bool.not_eq_false', decide_eq_true_eq, decide_eq_false_iff_not, eqNil] at hg; omega) )
    refine aOps_alloc ze27 (cs := [.bool false, .str [], .int .i64 0]) (by rfl) fun k11q6 hk11q6 => ?_
    have ne_11q6_1q0 : k11q6 ≠ k1q0 := by simp only [AHeap.set_none] at hk11q6; simp only [hk11q6, ne_eq, not_false_eq_true]
    have ne_11q6_2q4 : k11q6 ≠ k2q4 := by simp only [AHeap.set_none] at hk11q6; simp only [hk11q6, ne_eq, not_false_eq_true]
    have ne_11q6_9q6 : k11q6 ≠ k9q6 := by simp only [AHeap.set_none] at hk11q6; simp only [hk11q6, ne_eq, not_false_eq_true]
    have ne_11q6_10q6 : k11q6 ≠ k10q6 := by simp only [AHeap.set_none] at hk11q6; simp only [hk11q6, ne_eq, not_false_eq_true]
    try have hf_11q6 : h k11q6 = none := by first | assumption | (simp only [AHeap.set_none] at hk11q6; simp only [hk11q6])
    refine aOps_store (by rfl) (by rfl) (by repeat (first | exact AHeap.set_same _ _ _ | assumption | refine (AHeap.set_ne _ _ (by first | assumption | exact Ne.symm (by assumption))).trans ?_)) sz27 (by rfl) (by rfl) (by first | exact Nat.le_refl _ | decide | (simp; done) | (simp; omega)) (Nat.zero_le _) (by rfl) ?_
    simp only [AHeap.set_set, AVal.cells]
    simp (decide := true) only [aOps_nil, ev, putD, Slots.put, Slots.get, Slots.keep, if_true, if_false, true_and, ↓ap_assign, pop_assign, setAt, List.set_cons_zero, List.set_cons_succ, Nat.zero_add, Nat.reduceAdd]
    repeat (with_reducible refine And.intro ?_ ?_; · first | trivial | omega | (intro hg; simp only [Bool.and_eq_true, Bool.or_eq_true, Bool.not_eq_true', Bool.and_eq_false_iff, Bool.or_eq_false_iff, Bool.not_eq_false', decide_eq_true_eq, decide_eq_false_iff_not, eqNil] at hg; omega) )
    apply hK; clear hK K
    -- region 12  law.go:155
    refine awp_rseq [6, 7, 8, 9, 10, 11, 12, 13] (by rfl) fun K hK => ?_
    refine aOps_callV (V := decA (canon false 2 0)) (by rfl) (by rfl) ((c_of12 w₀ ht _ 2 0 (by omega) (by omega) (by omega) (by omega)).val rfl) ?_
    refine aOps_callV (V := decA (canon false 3 0)) (by rfl) (by rfl) ((c_of12 w₀ ht _ 3 0 (by omega) (by omega) (by omega) (by omega)).val rfl) ?_
    refine aOps_callV (V := .tuple [decA exQ, .int .i64 0]) (by rfl) (by rfl) ((c_Div w₀ _ (canon false 2 0) (canon false 3 0) (canon_lenD _ _ _ (by decide +kernel)) (canon_lenD _ _ _ (by decide +kernel))).val (by rw [ex_div])) ?_
    simp (decide := true) only [ev, putD, Slots.put, Slots.get, if_true, if_false, true_and, ↓ap_move, pop_move, ↓ap_extract, pop_extract, pExt_tuple, List.getD_cons_zero, List.getD_cons_succ, List.getD_cons_zero, List.getD_cons_succ, decA]
    repeat (with_reducible refine And.intro ?_ ?_; · first | trivial | omega | (intro hg; simp only [Bool.and_eq_true, Bool.or_eq_true, Bool.not_eq_true', Bool.and_eq_false_iff, Bool.or_eq_false_iff, Bool.not_eq_false', decide_eq_true_eq, decide_eq_false_iff_not, eqNil] at hg; omega) )
    refine aOps_alloc ze27 (cs := [.bool false, .str [], .int .i64 0]) (by rfl) fun k12q6 hk12q6 => ?_
    have ne_12q6_1q0 : k12q6 ≠ k1q0 := by simp only [AHeap.set_none] at hk12q6; simp only [hk12q6, ne_eq, not_false_eq_true]
    have ne_12q6_2q4 : k12q6 ≠ k2q4 := by simp only [AHeap.set_none] at hk12q6; simp only [hk12q6, ne_eq, not_false_eq_true]
    have ne_12q6_9q6 : k12q6 ≠ k9q6 := by simp only [AHeap.set_none] at hk12q6; simp only [hk12q6, ne_eq, not_false_eq_true]
    have ne_12q6_10q6 : k12q6 ≠ k10q6 := by simp only [AHeap.set_none] at hk12q6; simp only [hk12q6, ne_eq, not_false_eq_true]
    have ne_12q6_11q6 : k12q6 ≠ k11q6 := by simp only [AHeap.set_none] at hk12q6; simp only [hk12q6, ne_eq, not_false_eq_true]
    try have hf_12q6 : h k12q6 = none := by first | assumption | (simp only [AHeap.set_none] at hk12q6; simp only [hk12q6])
    refine aOps_store (by rfl) (by rfl) (by repeat (first | exact AHeap.set_same _ _ _ | assumption | refine (AHeap.set_ne _ _ (by first | assumption | exact Ne.symm (by assumption))).trans ?_)) sz27 (by rfl) (by rfl) (by first | exact Nat.le_refl _ | decide | (simp; done) | (simp; omega)) (Nat.zero_le _) (by rfl) ?_
    simp only [AHeap.set_set, AVal.cells]
    simp (decide := true) only [aOps_nil, ev, putD, Slots.put, Slots.get, Slots.keep, if_true, if_false, true_and, ↓ap_assign, pop_assign, setAt, List.set_cons_zero, List.set_cons_succ, Nat.zero_add, Nat.reduceAdd]
    repeat (with_reducible refine And.intro ?_ ?_; · first | trivial | omega | (intro hg; simp only [Bool.and_eq_true, Bool.or_eq_true, Bool.not_eq_true', Bool.and_eq_false_iff, Bool.or_eq_false_iff, Bool.not_eq_false', decide_eq_true_eq, decide_eq_false_iff_not, eqNil] at hg; omega) )
    apply hK; clear hK K
    -- region 13  law.go:156
    refine awp_rseq [6, 7, 8, 9, 10, 11, 12, 13, 15] (by rfl) fun K hK => ?_
    refine aOps_callV (V := decA (canon false 1 0)) (by rfl) (by rfl) ((c_of12 w₀ ht _ 1 0 (by omega) (by omega) (by omega) (by omega)).val rfl) ?_
    refine aOps_callV (V := decA (canon false 0 0)) (by rfl) (by rfl) ((c_of12 w₀ ht _ 0 0 (by omega) (by omega) (by omega) (by omega)).val rfl) ?_
    refine aOps_callV (V := .tuple [decA noD, .int .i64 7]) (by rfl) (by rfl) ((c_Div w₀ _ (canon false 1 0) (canon false 0 0) (canon_lenD _ _ _ (by decide +kernel)) (canon_lenD _ _ _ (by decide +kernel))).val (by rw [ex_div0])) ?_
    simp (decide := true) only [ev, putD, Slots.put, Slots.get, if_true, if_false, true_and, ↓ap_move, pop_move, ↓ap_extract, pop_extract, pExt_tuple, List.getD_cons_zero, List.getD_cons_succ, List.getD_cons_zero, List.getD_cons_succ, decA]
    repeat (with_reducible refine And.intro ?_ ?_; · first | trivial | omega | (intro hg; simp only [Bool.and_eq_true, Bool.or_eq_true, Bool.not_eq_true', Bool.and_eq_false_iff, Bool.or_eq_false_iff, Bool.not_eq_false', decide_eq_true_eq, decide_eq_false_iff_not, eqNil] at hg; omega) )
    refine aOps_alloc ze27 (cs := [.bool false, .str [], .int .i64 0]) (by rfl) fun k13q6 hk13q6 => ?_
    have ne_13q6_1q0 : k13q6 ≠ k1q0 := by simp only [AHeap.set_none] at hk13q6; simp only [hk13q6, ne_eq, not_false_eq_true]
    have ne_13q6_2q4 : k13q6 ≠ k2q4 := by simp only [AHeap.set_none] at hk13q6; simp only [hk13q6, ne_eq, not_false_eq_true]
    have ne_13q6_9q6 : k13q6 ≠ k9q6 := by simp only [AHeap.set_none] at hk13q6; simp only [hk13q6, ne_eq, not_false_eq_true]
    have ne_13q6_10q6 : k13q6 ≠ k10q6 := by simp only [AHeap.set_none] at hk13q6; simp only [hk13q6, ne_eq, not_false_eq_true]
    have ne_13q6_11q6 : k13q6 ≠ k11q6 := by simp only [AHeap.set_none] at hk13q6; simp only [hk13q6, ne_eq, not_false_eq_true]
    have ne_13q6_12q6 : k13q6 ≠ k12q6 := by simp only [AHeap.set_none] at hk13q6; simp only [hk13q6, ne_eq, not_false_eq_true]
    try have hf_13q6 : h k13q6 = none := by first | assumption | (simp only [AHeap.set_none] at hk13q6; simp only [hk13q6])
    refine aOps_store (by rfl) (by rfl) (by repeat (first | exact AHeap.set_same _ _ _ | assumption | refine (AHeap.set_ne _ _ (by first | assumption | exact Ne.symm (by assumption))).trans ?_)) sz27 (by rfl) (by rfl) (by first | exact Nat.le_refl _ | decide | (simp; done) | (simp; omega)) (Nat.zero_le _) (by rfl) ?_
    simp only [AHeap.set_set, AVal.cells]
    simp (decide := true) only [aOps_nil, ev, putD, Slots.put, Slots.get, Slots.keep, if_true, if_false, true_and, ↓ap_assign, pop_assign, setAt, List.set_cons_zero, List.set_cons_succ, Nat.zero_add, Nat.reduceAdd]
    repeat (with_reducible refine And.intro ?_ ?_; · first | trivial | omega | (intro hg; simp only [Bool.and_eq_true, Bool.or_eq_true, Bool.not_eq_true', Bool.and_eq_false_iff, Bool.or_eq_false_iff, Bool.not_eq_false', decide_eq_true_eq, decide_eq_false_iff_not, eqNil] at hg; omega) )
    apply hK; clear hK K
    -- region 14  law.go:157
    refine awp_rseq [6, 7, 8, 9, 10, 11, 12, 13, 15, 16, 17] (by rfl) fun K hK => ?_
    refine aOps_callV (V := decA (canon false 11 1)) (by rfl) (by rfl) ((c_of12 w₀ ht _ 11 1 (by omega) (by omega) (by omega) (by omega)).val rfl) ?_
    refine aOps_callV (V := decA (canon false 3 0)) (by rfl) (by rfl) ((c_of12 w₀ ht _ 3 0 (by omega) (by omega) (by omega) (by omega)).val rfl) ?_
    refine aOps_callV (V := .tuple [decA (canon false 1331 3), .int .i64 0]) (by rfl) (by rfl) ((c_Pow w₀ he _ (canon false 11 1) (canon false 3 0) (canon_lenD _ _ _ (by decide +kernel)) (canon_lenD _ _ _ (by decide +kernel))).val (by rw [ex_pow])) ?_
    simp (decide := true) only [ev, putD, Slots.put, Slots.get, if_true, if_false, true_and, ↓ap_move, pop_move, ↓ap_extract, pop_extract, pExt_tuple, List.getD_cons_zero, List.getD_cons_succ, List.getD_cons_zero, List.getD_cons_succ, decA]
    repeat (with_reducible refine And.intro ?_ ?_; · first | trivial | omega | (intro hg; simp only [Bool.and_eq_true, Bool.or_eq_true, Bool.not_eq_true', Bool.and_eq_false_iff, Bool.or_eq_false_iff, Bool.not_eq_false', decide_eq_true_eq, decide_eq_false_iff_not, eqNil] at hg; omega) )
    refine aOps_alloc ze27 (cs := [.bool false, .str [], .int .i64 0]) (by rfl) fun k14q6 hk14q6 => ?_
    have ne_14q6_1q0 : k14q6 ≠ k1q0 := by simp only [AHeap.set_none] at hk14q6; simp only [hk14q6, ne_eq, not_false_eq_true]
    have ne_14q6_2q4 : k14q6 ≠ k2q4 := by simp only [AHeap.set_none] at hk14q6; simp only [hk14q6, ne_eq, not_false_eq_true]
    have ne_14q6_9q6 : k14q6 ≠ k9q6 := by simp only [AHeap.set_none] at hk14q6; simp only [hk14q6, ne_eq, not_false_eq_true]
    have ne_14q6_10q6 : k14q6 ≠ k10q6 := by simp only [AHeap.set_none] at hk14q6; simp only [hk14q6, ne_eq, not_false_eq_true]
    have ne_14q6_11q6 : k14q6 ≠ k11q6 := by simp only [AHeap.set_none] at hk14q6; simp only [hk14q6, ne_eq, not_false_eq_true]
    have ne_14q6_12q6 : k14q6 ≠ k12q6 := by simp only [AHeap.set_none] at hk14q6; simp only [hk14q6, ne_eq, not_false_eq_true]
    have ne_14q6_13q6 : k14q6 ≠ k13q6 := by simp only [AHeap.set_none] at hk14q6; simp only [hk14q6, ne_eq, not_false_eq_true]
    try have hf_14q6 : h k14q6 = none := by first | assumption | (simp only [AHeap.set_none] at hk14q6; simp only [hk14q6])
    refine aOps_store (by rfl) (by rfl) (by repeat (first | exact AHeap.set_same _ _ _ | assumption | refine (AHeap.set_ne _ _ (by first | assumption | exact Ne.symm (by assumption))).trans ?_)) sz27 (by rfl) (by rfl) (by first | exact Nat.le_refl _ | decide | (simp; done) | (simp; omega)) (Nat.zero_le _) (by rfl) ?_
    simp only [AHeap.set_set, AVal.cells]
    simp (decide := true) only [aOps_nil, ev, putD, Slots.put, Slots.get, Slots.keep, if_true, if_false, true_and, ↓ap_assign, pop_assign, setAt, List.set_cons_zero, List.set_cons_succ, Nat.zero_add, Nat.reduceAdd]
    repeat (with_reducible refine And.intro ?_ ?_; · first | trivial | omega | (intro hg; simp only [Bool.and_eq_true, Bool.or_eq_true, Bool.not_eq_true', Bool.and_eq_false_iff, Bool.or_eq_false_iff, Bool.not_eq_false', decide_eq_true_eq, decide_eq_false_iff_not, eqNil] at hg; omega) )
    apply hK; clear hK K
    -- region 15  law.go:158
    refine awp_rseq [6, 7, 8, 9, 10, 11, 12, 13, 15, 16, 17, 18, 19, 20] (by rfl) fun K hK => ?_
    refine aOps_callV (V := decA (canon true 1257 2)) (by rfl) (by rfl) ((c_of12 w₀ ht _ (-1257) 2 (by omega) (by omega) (by omega) (by omega)).val rfl) ?_
    refine aOps_callV (V := .tuple [decA (canon true 125 1), .bool false, .int .i64 0]) (by rfl) (by rfl) ((c_Cut w₀ _ (canon true 1257 2) 1 (canon_lenD _ _ _ (by decide +kernel)) (by omega) (by omega)).val (by rw [ex_cut1])) ?_
    simp (decide := true) only [ev, putD, Slots.put, Slots.get, if_true, if_false, true_and, ↓ap_move, pop_move, ↓ap_extract, pop_extract, pExt_tuple, List.getD_cons_zero, List.getD_cons_succ, List.getD_cons_zero, List.getD_cons_succ, decA]
    repeat (with_reducible refine And.intro ?_ ?_; · first | trivial | omega | (intro hg; simp only [Bool.and_eq_true, Bool.or_eq_true, Bool.not_eq_true', Bool.and_eq_false_iff, Bool.or_eq_false_iff, Bool.not_eq_false', decide_eq_true_eq, decide_eq_false_iff_not, eqNil] at hg; omega) )
    refine aOps_alloc ze27 (cs := [.bool false, .str [], .int .i64 0]) (by rfl) fun k15q6 hk15q6 => ?_
    have ne_15q6_1q0 : k15q6 ≠ k1q0 := by simp only [AHeap.set_none] at hk15q6; simp only [hk15q6, ne_eq, not_false_eq_true]
    have ne_15q6_2q4 : k15q6 ≠ k2q4 := by simp only [AHeap.set_none] at hk15q6; simp only [hk15q6, ne_eq, not_false_eq_true]
    have ne_15q6_9q6 : k15q6 ≠ k9q6 := by simp only [AHeap.set_none] at hk15q6; simp only [hk15q6, ne_eq, not_false_eq_true]
    have ne_15q6_10q6 : k15q6 ≠ k10q6 := by simp only [AHeap.set_none] at hk15q6; simp only [hk15q6, ne_eq, not_false_eq_true]
    have ne_15q6_11q6 : k15q6 ≠ k11q6 := by simp only [AHeap.set_none] at hk15q6; simp only [hk15q6, ne_eq, not_false_eq_true]
    have ne_15q6_12q6 : k15q6 ≠ k12q6 := by simp only [AHeap.set_none] at hk15q6; simp only [hk15q6, ne_eq, not_false_eq_true]
    have ne_15q6_13q6 : k15q6 ≠ k13q6 := by simp only [AHeap.set_none] at hk15q6; simp only [hk15q6, ne_eq, not_false_eq_true]
    have ne_15q6_14q6 : k15q6 ≠ k14q6 := by simp only [AHeap.set_none] at hk15q6; simp only [hk15q6, ne_eq, not_false_eq_true]
    try have hf_15q6 : h k15q6 = none := by first | assumption | (simp only [AHeap.set_none] at hk15q6; simp only [hk15q6])
    refine aOps_store (by rfl) (by rfl) (by repeat (first | exact AHeap.set_same _ _ _ | assumption | refine (AHeap.set_ne _ _ (by first | assumption | exact Ne.symm (by assumption))).trans ?_)) sz27 (by rfl) (by rfl) (by first | exact Nat.le_refl _ | decide | (simp; done) | (simp; omega)) (Nat.zero_le _) (by rfl) ?_
    simp only [AHeap.set_set, AVal.cells]
    simp (decide := true) only [aOps_nil, ev, putD, Slots.put, Slots.get, Slots.keep, if_true, if_false, true_and, ↓ap_assign, pop_assign, setAt, List.set_cons_zero, List.set_cons_succ, Nat.zero_add, Nat.reduceAdd]
    repeat (with_reducible refine And.intro ?_ ?_; · first | trivial | omega | (intro hg; simp only [Bool.and_eq_true, Bool.or_eq_true, Bool.not_eq_true', Bool.and_eq_false_iff, Bool.or_eq_false_iff, Bool.not_eq_false', decide_eq_true_eq, decide_eq_false_iff_not, eqNil] at hg; omega) )
    apply hK; clear hK K
    -- region 16  law.go:159
    refine awp_rseq [6, 7, 8, 9, 10, 11, 12, 13, 15, 16, 17, 18, 19, 20, 21, 22, 23] (by rfl) fun K hK => ?_
    refine aOps_callV (V := decA (canon false 1250 0)) (by rfl) (by rfl) ((c_of12 w₀ ht _ 1250 0 (by omega) (by omega) (by omega) (by omega)).val rfl) ?_
    refine aOps_callV (V := .tuple [decA (canon false 1200 0), .bool false, .int .i64 0]) (by rfl) (by rfl) ((c_Cut w₀ _ (canon false 1250 0) (-2) (canon_lenD _ _ _ (by decide +kernel)) (by omega) (by omega)).val (by rw [ex_cut2])) ?_
    simp (decide := true) only [ev, putD, Slots.put, Slots.get, if_true, if_false, true_and, ↓ap_move, pop_move, ↓ap_extract, pop_extract, pExt_tuple, List.getD_cons_zero, List.getD_cons_succ, List.getD_cons_zero, List.getD_cons_succ, decA]
    repeat (with_reducible refine And.intro ?_ ?_; · first | trivial | omega | (intro hg; simp only [Bool.and_eq_true, Bool.or_eq_true, Bool.not_eq_true', Bool.and_eq_false_iff, Bool.or_eq_false_iff, Bool.not_eq_false', decide_eq_true_eq, decide_eq_false_iff_not, eqNil] at hg; omega) )
    refine aOps_alloc ze27 (cs := [.bool false, .str [], .int .i64 0]) (by rfl) fun k16q6 hk16q6 => ?_
    have ne_16q6_1q0 : k16q6 ≠ k1q0 := by simp only [AHeap.set_none] at hk16q6; simp only [hk16q6, ne_eq, not_false_eq_true]
    have ne_16q6_2q4 : k16q6 ≠ k2q4 := by simp only [AHeap.set_none] at hk16q6; simp only [hk16q6, ne_eq, not_false_eq_true]
    have ne_16q6_9q6 : k16q6 ≠ k9q6 := by simp only [AHeap.set_none] at hk16q6; simp only [hk16q6, ne_eq, not_false_eq_true]
    have ne_16q6_10q6 : k16q6 ≠ k10q6 := by simp only [AHeap.set_none] at hk16q6; simp only [hk16q6, ne_eq, not_false_eq_true]
    have ne_16q6_11q6 : k16q6 ≠ k11q6 := by simp only [AHeap.set_none] at hk16q6; simp only [hk16q6, ne_eq, not_false_eq_true]
    have ne_16q6_12q6 : k16q6 ≠ k12q6 := by simp only [AHeap.set_none] at hk16q6; simp only [hk16q6, ne_eq, not_false_eq_true]
    have ne_16q6_13q6 : k16q6 ≠ k13q6 := by simp only [AHeap.set_none] at hk16q6; simp only [hk16q6, ne_eq, not_false_eq_true]
    have ne_16q6_14q6 : k16q6 ≠ k14q6 := by simp only [AHeap.set_none] at hk16q6; simp only [hk16q6, ne_eq, not_false_eq_true]
    have ne_16q6_15q6 : k16q6 ≠ k15q6 := by simp only [AHeap.set_none] at hk16q6; simp only [hk16q6, ne_eq, not_false_eq_true]
    try have hf_16q6 : h k16q6 = none := by first | assumption | (simp only [AHeap.set_none] at hk16q6; simp only [hk16q6])
    refine aOps_store (by rfl) (by rfl) (by repeat (first | exact AHeap.set_same _ _ _ | assumption | refine (AHeap.set_ne _ _ (by first | assumption | exact Ne.symm (by assumption))).trans ?_)) sz27 (by rfl) (by rfl) (by first | exact Nat.le_refl _ | decide | (simp; done) | (simp; omega)) (Nat.zero_le _) (by rfl) ?_
    simp only [AHeap.set_set, AVal.cells]
    simp (decide := true) only [aOps_nil, ev, putD, Slots.put, Slots.get, Slots.keep, if_true, if_false, true_and, ↓ap_assign, pop_assign, setAt, List.set_cons_zero, List.set_cons_succ, Nat.zero_add, Nat.reduceAdd]
    repeat (with_reducible refine And.intro ?_ ?_; · first | trivial | omega | (intro hg; simp only [Bool.and_eq_true, Bool.or_eq_true, Bool.not_eq_true', Bool.and_eq_false_iff, Bool.or_eq_false_iff, Bool.not_eq_false', decide_eq_true_eq, decide_eq_false_iff_not, eqNil] at hg; omega) )
    apply hK; clear hK K
    refine awp_seq ?_
    -- region 17  law.go:160
    refine awp_rseq [6, 8, 10, 12, 16, 18, 19, 21, 22, 140] (by rfl) fun K hK => ?_
    simp (decide := true) only [aOps_nil, ev, absV, absS, putD, Slots.put, Slots.get, Slots.keep, if_true, if_false, true_and, ↓ap_move, pop_move, ↓ap_binOp, pop_binOp, isNilC_int, cond_false, pBinX_int, pI_neq, ↓ag_move, agP, agQ_some, nthDst, gKnown_bool, guardB_bool_false, implies_true, decide_true, Bool.not_false, Bool.not_true, condV_true, Bool.and_true, ↓ag_binOp, ↓ap_pick, pop_pick, pPick_bool, pickV_and, Bool.and_true]
    repeat (with_reducible refine And.intro ?_ ?_; · first | trivial | omega | (intro hg; simp only [Bool.and_eq_true, Bool.or_eq_true, Bool.not_eq_true', Bool.and_eq_false_iff, Bool.or_eq_false_iff, Bool.not_eq_false', decide_eq_true_eq, decide_eq_false_iff_not, eqNil] at hg; omega) )
    apply hK; clear hK K
    refine awp_cond (b := _) rfl (fun hb3 => ?_) (fun hb3 => ?_)
    · exact absurd hb3 (by decide)
    · try simp only at hb3
      refine awp_skip ?_
      change Awp _ _ _ _ _ _ _
      -- region 19  law.go:163
      refine awp_dseq_any [0] mixed (by kernel_rfl) (by rfl) fun K hK => ?_
      simp (decide := true) only [ev, putD, Slots.put, Slots.get, if_true, if_false, true_and, ↓vp_load, pop_load, pLoad_agg ag27 sz27, rd_ne', ne_eq, not_false_eq_true, ne_10q6_9q6.symm, ne_11q6_9q6.symm, ne_12q6_9q6.symm, ne_13q6_9q6.symm, ne_14q6_9q6.symm, ne_15q6_9q6.symm, ne_16q6_9q6.symm, rd_any, cellsAt, List.getD_cons_zero, List.getD_cons_succ, Nat.zero_add, Nat.reduceAdd, lv_bool, lv_int, lv_str, allLive, Bool.and_true, Bool.and_true]
      repeat (with_reducible refine And.intro ?_ ?_; · first | trivial | omega | (intro hg; simp only [Bool.and_eq_true, Bool.or_eq_true, Bool.not_eq_true', Bool.and_eq_false_iff, Bool.or_eq_false_iff, Bool.not_eq_false', decide_eq_true_eq, decide_eq_false_iff_not, eqNil] at hg; omega) )
      refine vOps_callV (V := decA (canon false 35 2)) (by rfl) (by rfl) ((c_of12 w₀ ht _ 35 2 (by omega) (by omega) (by omega) (by omega)).val rfl) ?_
      simp (decide := true) only [ev, putD, Slots.put, Slots.get, if_true, if_false, true_and, ↓vp_binOp, pop_binOp, isNilC_tmp, cond_false, pBinX_agg, eq27, ↓vp_move, pop_move, ↓vg_load, pop_load, vgQ_some, vgP, nthDst, gKnown_bool, guardB_bool_true, implies_true, decide_true, condV_true, Bool.and_true, pLoad_agg ag27 sz27, rd_ne', ne_eq, not_false_eq_true, ne_11q6_10q6.symm, ne_12q6_10q6.symm, ne_13q6_10q6.symm, ne_14q6_10q6.symm, ne_15q6_10q6.symm, ne_16q6_10q6.symm, rd_any, cellsAt, List.getD_cons_zero, List.getD_cons_succ, Nat.zero_add, Nat.reduceAdd, lv_bool, lv_int, lv_str, allLive, Bool.and_true, decA, beq_self_eq_true, Bool.and_true, decide_true]
      repeat (with_reducible refine And.intro ?_ ?_; · first | trivial | omega | (intro hg; simp only [Bool.and_eq_true, Bool.or_eq_true, Bool.not_eq_true', Bool.and_eq_false_iff, Bool.or_eq_false_iff, Bool.not_eq_false', decide_eq_true_eq, decide_eq_false_iff_not, eqNil] at hg; omega) )
      refine vOps_gcall (V := decA (canon false 0 0)) (f := _) (cap := _) (xs := _) rfl (fun hg => ⟨rfl, ?_⟩) (fun hg => (c_of12 w₀ ht _ 0 0 (by omega) (by omega) (by omega) (by omega)).val rfl) ?_
      · try simp (decide := true) only [gv, nthDst, Slots.get, if_true, if_false, guardB_bool_true] at hg
        simp (decide := true) only [evs, ev, List.append_nil, List.map_cons, List.map_nil, absV, absS]
      simp (decide := true) only [ev, absV, absS, putD, Slots.put, Slots.get, if_true, if_false, true_and, gv, nthDst, guardB_bool_true, ↓vg_binOp, pop_binOp, vgP, vgQ_some, gKnown_bool, implies_true, decide_true, condV_true, Bool.and_true, isNilC_tmp, cond_false, pBinX_agg, eq27, ↓vp_pick, pop_pick, pPick_bool, pickV_and, ↓vp_move, pop_move, ↓vg_load, pop_load, pLoad_agg ag27 sz27, rd_ne', ne_eq, not_false_eq_true, ne_12q6_11q6.symm, ne_13q6_11q6.symm, ne_14q6_11q6.symm, ne_15q6_11q6.symm, ne_16q6_11q6.symm, rd_any, cellsAt, List.getD_cons_zero, List.getD_cons_succ, Nat.zero_add, Nat.reduceAdd, lv_bool, lv_int, lv_str, allLive, Bool.and_true, decA, beq_self_eq_true, Bool.and_true, decide_true]
      repeat (with_reducible refine And.intro ?_ ?_; · first | trivial | omega | (intro hg; simp only [Bool.and_eq_true, Bool.or_eq_true, Bool.not_eq_true', Bool.and_eq_false_iff, Bool.or_eq_false_iff, Bool.not_eq_false', decide_eq_true_eq, decide_eq_false_iff_not, eqNil] at hg; omega) )
      refine vOps_gcall (V := decA (canon true 6 1)) (f := _) (cap := _) (xs := _) rfl (fun hg => ⟨rfl, ?_⟩) (fun hg => (c_of12 w₀ ht _ (-6) 1 (by omega) (by omega) (by omega) (by omega)).val rfl) ?_
      · try simp (decide := true) only [gv, nthDst, Slots.get, if_true, if_false, guardB_bool_true] at hg
        simp (decide := true) only [evs, ev, List.append_nil, List.map_cons, List.map_nil, absV, absS]
      simp (decide := true) only [ev, absV, absS, putD, Slots.put, Slots.get, if_true, if_false, true_and, gv, nthDst, guardB_bool_true, ↓vg_binOp, pop_binOp, vgP, vgQ_some, gKnown_bool, implies_true, decide_true, condV_true, Bool.and_true, isNilC_tmp, cond_false, pBinX_agg, eq27, ↓vp_pick, pop_pick, pPick_bool, pickV_and, ↓vp_move, pop_move, ↓vg_load, pop_load, pLoad_agg ag27 sz27, rd_ne', ne_eq, not_false_eq_true, ne_13q6_12q6.symm, ne_14q6_12q6.symm, ne_15q6_12q6.symm, ne_16q6_12q6.symm, rd_any, cellsAt, List.getD_cons_zero, List.getD_cons_succ, Nat.zero_add, Nat.reduceAdd, lv_bool, lv_int, lv_str, allLive, Bool.and_true, decA, beq_self_eq_true, Bool.and_true, decide_true]
      repeat (with_reducible refine And.intro ?_ ?_; · first | trivial | omega | (intro hg; simp only [Bool.and_eq_true, Bool.or_eq_true, Bool.not_eq_true', Bool.and_eq_false_iff, Bool.or_eq_false_iff, Bool.not_eq_false', decide_eq_true_eq, decide_eq_false_iff_not, eqNil] at hg; omega) )
      refine vOps_gcall (V := .str [48, 46, 54, 54, 54, 54, 54, 54, 54, 54, 54, 54, 54, 54, 54, 54, 54, 54, 54, 54, 54, 54, 54, 54, 54, 54, 54, 54, 54, 54, 54, 54]) (f := _) (cap := _) (xs := _) rfl (fun hg => ⟨rfl, ?_⟩) (fun hg => (show ACall Tryz.prog w₀ 16 [.agg [.bool exQ.neg, .str exQ.dig, .int .i64 exQ.scale]] _ _ from (c_Text w₀ _ exQ (by decide)).val (by rw [ex_text]))) ?_
      · try simp (decide := true) only [gv, nthDst, Slots.get, if_true, if_false, guardB_bool_true] at hg
        simp (decide := true) only [evs, ev, Slots.get, if_true, if_false, List.append_nil, List.map_cons, List.map_nil]
      simp (decide := true) only [ev, absV, absS, putD, Slots.put, Slots.get, if_true, if_false, true_and, gv, nthDst, guardB_bool_true, ↓vg_binOp, pop_binOp, vgP, vgQ_some, gKnown_bool, implies_true, decide_true, condV_true, Bool.and_true, isNilC_str, cond_false, pBinX_str, pS_eql, ↓vp_pick, pop_pick, pPick_bool, pickV_and, ↓vp_move, pop_move, ↓vg_load, pop_load, pLoad_agg ag27 sz27, rd_ne', ne_eq, not_false_eq_true, ne_15q6_14q6.symm, ne_16q6_14q6.symm, rd_any, cellsAt, List.getD_cons_zero, List.getD_cons_succ, Nat.zero_add, Nat.reduceAdd, lv_bool, lv_int, lv_str, allLive, Bool.and_true, Bool.and_true, decide_true]
      repeat (with_reducible refine And.intro ?_ ?_; · first | trivial | omega | (intro hg; simp only [Bool.and_eq_true, Bool.or_eq_true, Bool.not_eq_true', Bool.and_eq_false_iff, Bool.or_eq_false_iff, Bool.not_eq_false', decide_eq_true_eq, decide_eq_false_iff_not, eqNil] at hg; omega) )
      refine vOps_gcall (V := decA (canon false 1331 3)) (f := _) (cap := _) (xs := _) rfl (fun hg => ⟨rfl, ?_⟩) (fun hg => (c_of12 w₀ ht _ 1331 3 (by omega) (by omega) (by omega) (by omega)).val rfl) ?_
      · try simp (decide := true) only [gv, nthDst, Slots.get, if_true, if_false, guardB_bool_true] at hg
        simp (decide := true) only [evs, ev, List.append_nil, List.map_cons, List.map_nil, absV, absS]
      simp (decide := true) only [ev, absV, absS, putD, Slots.put, Slots.get, if_true, if_false, true_and, gv, nthDst, guardB_bool_true, ↓vg_binOp, pop_binOp, vgP, vgQ_some, gKnown_bool, implies_true, decide_true, condV_true, Bool.and_true, isNilC_tmp, cond_false, pBinX_agg, eq27, ↓vp_pick, pop_pick, pPick_bool, pickV_and, ↓vp_move, pop_move, ↓vg_load, pop_load, pLoad_agg ag27 sz27, rd_ne', ne_eq, not_false_eq_true, ne_16q6_15q6.symm, rd_any, cellsAt, List.getD_cons_zero, List.getD_cons_succ, Nat.zero_add, Nat.reduceAdd, lv_bool, lv_int, lv_str, allLive, Bool.and_true, decA, beq_self_eq_true, Bool.and_true, decide_true]
      repeat (with_reducible refine And.intro ?_ ?_; · first | trivial | omega | (intro hg; simp only [Bool.and_eq_true, Bool.or_eq_true, Bool.not_eq_true', Bool.and_eq_false_iff, Bool.or_eq_false_iff, Bool.not_eq_false', decide_eq_true_eq, decide_eq_false_iff_not, eqNil] at hg; omega) )
      refine vOps_gcall (V := decA (canon true 125 1)) (f := _) (cap := _) (xs := _) rfl (fun hg => ⟨rfl, ?_⟩) (fun hg => (c_of12 w₀ ht _ (-125) 1 (by omega) (by omega) (by omega) (by omega)).val rfl) ?_
      · try simp (decide := true) only [gv, nthDst, Slots.get, if_true, if_false, guardB_bool_true] at hg
        simp (decide := true) only [evs, ev, List.append_nil, List.map_cons, List.map_nil, absV, absS]
      simp (decide := true) only [ev, absV, absS, putD, Slots.put, Slots.get, if_true, if_false, true_and, gv, nthDst, guardB_bool_true, ↓vg_binOp, pop_binOp, vgP, vgQ_some, gKnown_bool, implies_true, decide_true, Bool.not_false, condV_true, Bool.and_true, isNilC_tmp, cond_false, pBinX_agg, eq27, ↓vp_pick, pop_pick, pPick_bool, pickV_and, ↓vp_move, pop_move, ↓vg_move, ↓vg_unOp, pop_unOp, pU_not, ↓vg_load, pop_load, pLoad_agg ag27 sz27, rd_any, cellsAt, List.getD_cons_zero, List.getD_cons_succ, Nat.zero_add, Nat.reduceAdd, lv_bool, lv_int, lv_str, allLive, Bool.and_true, decA, beq_self_eq_true, Bool.and_true, decide_true, Bool.not_false]
      try simp (disch := omega) only [wrap_i64, wrap_u8]
      repeat (with_reducible refine And.intro ?_ ?_; · first | trivial | omega | (intro hg; simp only [Bool.and_eq_true, Bool.or_eq_true, Bool.not_eq_true', Bool.and_eq_false_iff, Bool.or_eq_false_iff, Bool.not_eq_false', decide_eq_true_eq, decide_eq_false_iff_not, eqNil] at hg; omega) )
      refine vOps_gcall (V := decA (canon false 1200 0)) (f := _) (cap := _) (xs := _) rfl (fun hg => ⟨rfl, ?_⟩) (fun hg => (c_of12 w₀ ht _ 1200 0 (by omega) (by omega) (by omega) (by omega)).val rfl) ?_
      · try simp (decide := true) only [gv, nthDst, Slots.get, if_true, if_false, guardB_bool_true] at hg
        simp (decide := true) only [evs, ev, List.append_nil, List.map_cons, List.map_nil, absV, absS]
      simp (decide := true) only [vOps_nil, ev, absV, absS, putD, Slots.put, Slots.get, Slots.keep, if_true, if_false, true_and, gv, nthDst, guardB_bool_true, ↓vg_binOp, pop_binOp, vgP, vgQ_some, gKnown_bool, implies_true, decide_true, Bool.not_false, condV_true, Bool.and_true, isNilC_tmp, cond_false, pBinX_agg, eq27, ↓vp_pick, pop_pick, pPick_bool, pickV_and, ↓vp_move, pop_move, ↓vg_move, ↓vg_unOp, pop_unOp, pU_not, ↓vp_assign, pop_assign, Bool.and_true, decA, beq_self_eq_true, Bool.and_true, decide_true, Bool.not_false]
      try simp (disch := omega) only [wrap_i64, wrap_u8]
      repeat (with_reducible refine And.intro ?_ ?_; · first | trivial | omega | (intro hg; simp only [Bool.and_eq_true, Bool.or_eq_true, Bool.not_eq_true', Bool.and_eq_false_iff, Bool.or_eq_false_iff, Bool.not_eq_false', decide_eq_true_eq, decide_eq_false_iff_not, eqNil] at hg; omega) )
      apply hK; clear hK K
      refine awp_ret ?_
      try simp only [thenA_ret, inBlockA_ret]
      refine retA_ret h (by repeat (first | exact Sub.refl _ | assumption | refine Sub.trans_set ?_ (by assumption))) (resPre_tmp (resPre_nil)) ?_
      simp (decide := true) only [Slots.get, if_true, and_true, resOf_one]
      all_goals first | rfl | exact ⟨rfl, rfl⟩ | (simp (decide := true) only [if_true, if_false, *]; done) | (trace_state; fail)
end Go.Proofs.YthiiakghjoeikaaGreatDoor

/-
  The statements' Text.
  Conditions: none.
-/
namespace Go.Proofs.YthiiakghjoeikaaGreatDoor
open Go.AM
open Go.Proofs
open Go.Dec
open Go.Lib (decDigits)
set_option maxRecDepth 100000

end Go.Proofs.YthiiakghjoeikaaGreatDoor

/-
  The statements' big numbers: rows of digits.
  Conditions: none.
-/
namespace Go.Proofs.YthiiakghjoeikaaGreatDoor
open Go.AM
open Go.Proofs
open Go.Dec
open Go.Lib (decDigits)
set_option maxRecDepth 100000

theorem c_digitO (w₀ : World) (h : AHeap) (neg : Bool) (k : Nat) (zs : List Int) (c : AM.Cap) (hk : h k = some ⟨intCells zs, 0⟩) (hl : zs.length ≤ 1048576) (i : Nat) (hi : i ≤ 1048576) :
    ACall Tryz.prog w₀ 55 [.agg [.bool neg, .slice (.own k) 0 zs.length c], .int .i64 i] h (fun v h' => v = .int .i64 (zs.getD i 0) ∧ h' = h) := by
  refine acall_intro (n := 15) (rs := [.tmp 4]) Tryz.func55 rfl rfl rfl rfl (Nat.le_of_ble_eq_true rfl) ?_
  simp only [initSlots]
  -- region 0  law.go:64
  refine awp_rseq [1, 2] (by rfl) fun K hK => ?_
  refine aOps_box (by rfl) (by rfl) (by rfl) fun k0q0 hk0q0 => ?_
  try have hf_0q0 : h k0q0 = none := by first | assumption | (simp only [AHeap.set_none] at hk0q0; simp only [hk0q0])
  have hkk : k ≠ k0q0 := fun e => by rw [e, hk0q0] at hk; cases hk
  simp (decide := true) only [aOps_nil, ev, absV, absS, putD, Slots.put, Slots.get, Slots.keep, if_true, if_false, true_and, ↓ap_assign, pop_assign, AVal.cells, Nat.zero_add]
  repeat (with_reducible refine And.intro ?_ ?_; · first | trivial | omega | (intro hg; simp only [Bool.and_eq_true, Bool.or_eq_true, Bool.not_eq_true', Bool.and_eq_false_iff, Bool.or_eq_false_iff, Bool.not_eq_false', decide_eq_true_eq, decide_eq_false_iff_not, eqNil] at hg; omega) | (simp only [List.length_append, List.length_map, List.length_range, List.length_replicate, List.length_take, List.length_drop, List.length_cons, List.length_nil, List.length_set, List.length_reverse]; omega))
  apply hK; clear hK K
  refine awp_seq ?_
  -- region 1  law.go:65
  refine awp_rseq [1, 2, 9] (by rfl) fun K hK => ?_
  simp (decide := true) only [aOps_nil, ev, putD, Slots.put, Slots.get, Slots.keep, if_true, if_false, true_and, ↓ap_move, pop_move, ↓ap_fieldAddr, pop_fieldAddr, fa40_1, ↓ap_loadL, apL_mk, pLoad_one ag38, ↓ap_len, pop_len, pLen_slice Tryz.underlying38, ↓ap_binOp, pop_binOp, isNilC_tmp, cond_false, pBinX_int, pI_lss, rd_any, List.getD_cons_zero, List.getD_cons_succ, Nat.zero_add, lv_slice, Nat.zero_add]
  repeat (with_reducible refine And.intro ?_ ?_; · first | trivial | omega | (intro hg; simp only [Bool.and_eq_true, Bool.or_eq_true, Bool.not_eq_true', Bool.and_eq_false_iff, Bool.or_eq_false_iff, Bool.not_eq_false', decide_eq_true_eq, decide_eq_false_iff_not, eqNil] at hg; omega) | (simp only [List.length_append, List.length_map, List.length_range, List.length_replicate, List.length_take, List.length_drop, List.length_cons, List.length_nil, List.length_set, List.length_reverse]; omega))
  apply hK; clear hK K
  refine awp_cond (b := _) rfl (fun hb1 => ?_) (fun hb1 => ?_)
  · try simp only [decide_eq_true_eq] at hb1
    have hg := intCells_getD (zs := zs) (i := i) (by omega)
    -- region 2  law.go:66
    refine awp_rseq [4] (by rfl) fun K hK => ?_
    simp (decide := true) only [aOps_nil, ev, putD, Slots.put, Slots.get, Slots.keep, if_true, if_false, true_and, ↓ap_fieldAddr, pop_fieldAddr, fa40_1, ↓ap_loadL, apL_mk, pLoad_one ag38, ↓ap_move, pop_move, ↓ap_indexAddrL, pIndexAddr_slice Tryz.underlying38 sz3, pLoad_one ag3, ↓ap_assign, pop_assign, rd_any, List.getD_cons_zero, List.getD_cons_succ, Nat.zero_add, lv_int, lv_slice, rd_ne w₀ _ _ hkk, rd_own w₀ hk, Int.toNat_natCast, Nat.mul_one, Nat.zero_add, hg, lv_int]
    repeat (with_reducible refine And.intro ?_ ?_; · first | trivial | omega | (intro hg; simp only [Bool.and_eq_true, Bool.or_eq_true, Bool.not_eq_true', Bool.and_eq_false_iff, Bool.or_eq_false_iff, Bool.not_eq_false', decide_eq_true_eq, decide_eq_false_iff_not, eqNil] at hg; omega) | (simp only [List.length_append, List.length_map, List.length_range, List.length_replicate, List.length_take, List.length_drop, List.length_cons, List.length_nil, List.length_set, List.length_reverse]; omega))
    apply hK; clear hK K
    refine awp_ret ?_
    try simp only [thenA_ret]
    refine retA_ret h (by repeat (first | exact Sub.refl _ | assumption | refine Sub.trans_set ?_ (by assumption))) (resPre_tmp (resPre_nil)) ?_
    simp (decide := true) only [Slots.get, if_true, and_true, resOf_one]
    all_goals first | rfl | exact ⟨rfl, rfl⟩ | (simp (decide := true) only [if_true, if_false, *]; done) | (trace_state; fail)
  · try simp only [decide_eq_false_iff_not] at hb1
    refine awp_skip ?_
    change Awp _ _ _ _ _ _ _
    -- region 3  law.go:68
    refine awp_rseq [4] (by rfl) fun K hK => ?_
    simp (decide := true) only [aOps_nil, ev, absV, absS, putD, Slots.put, Slots.keep, if_true, if_false, true_and, ↓ap_assign, pop_assign]
    repeat (with_reducible refine And.intro ?_ ?_; · first | trivial | omega | (intro hg; simp only [Bool.and_eq_true, Bool.or_eq_true, Bool.not_eq_true', Bool.and_eq_false_iff, Bool.or_eq_false_iff, Bool.not_eq_false', decide_eq_true_eq, decide_eq_false_iff_not, eqNil] at hg; omega) | (simp only [List.length_append, List.length_map, List.length_range, List.length_replicate, List.length_take, List.length_drop, List.length_cons, List.length_nil, List.length_set, List.length_reverse]; omega))
    apply hK; clear hK K
    refine awp_ret ?_
    try simp only [thenA_ret, inBlockA_ret]
    refine retA_ret h (by repeat (first | exact Sub.refl _ | assumption | refine Sub.trans_set ?_ (by assumption))) (resPre_tmp (resPre_nil)) ?_
    simp (decide := true) only [Slots.get, if_true, and_true, resOf_one]
    rw [List.getD, List.getElem?_eq_none (by omega)]
    rfl
theorem c_digitN (w₀ : World) (h : AHeap) (neg : Bool) (i : Nat) (hi : i ≤ 1048576) :
    ACall Tryz.prog w₀ 55 [.agg [.bool neg, .nilSlice], .int .i64 i] h (fun v h' => v = .int .i64 0 ∧ h' = h) := by
  refine acall_intro (n := 15) (rs := [.tmp 4]) Tryz.func55 rfl rfl rfl rfl (Nat.le_of_ble_eq_true rfl) ?_
  simp only [initSlots]
  -- region 0  law.go:64
  refine awp_rseq [1, 2] (by rfl) fun K hK => ?_
  refine aOps_box (by rfl) (by rfl) (by rfl) fun k0q0 hk0q0 => ?_
  try have hf_0q0 : h k0q0 = none := by first | assumption | (simp only [AHeap.set_none] at hk0q0; simp only [hk0q0])
  skip
  simp (decide := true) only [aOps_nil, ev, absV, absS, putD, Slots.put, Slots.get, Slots.keep, if_true, if_false, true_and, ↓ap_assign, pop_assign, AVal.cells, Nat.zero_add]
  repeat (with_reducible refine And.intro ?_ ?_; · first | trivial | omega | (intro hg; simp only [Bool.and_eq_true, Bool.or_eq_true, Bool.not_eq_true', Bool.and_eq_false_iff, Bool.or_eq_false_iff, Bool.not_eq_false', decide_eq_true_eq, decide_eq_false_iff_not, eqNil] at hg; omega) | (simp only [List.length_append, List.length_map, List.length_range, List.length_replicate, List.length_take, List.length_drop, List.length_cons, List.length_nil, List.length_set, List.length_reverse]; omega))
  apply hK; clear hK K
  refine awp_seq ?_
  -- region 1  law.go:65
  refine awp_rseq [1, 2, 9] (by rfl) fun K hK => ?_
  simp (decide := true) only [aOps_nil, ev, putD, Slots.put, Slots.get, Slots.keep, if_true, if_false, true_and, ↓ap_move, pop_move, ↓ap_fieldAddr, pop_fieldAddr, fa40_1, ↓ap_loadL, apL_mk, pLoad_one ag38, ↓ap_len, pop_len, pLen_nil Tryz.underlying38, ↓ap_binOp, pop_binOp, isNilC_tmp, cond_false, pBinX_int, pI_lss, rd_any, List.getD_cons_zero, List.getD_cons_succ, Nat.zero_add, lv_nilSlice]
  repeat (with_reducible refine And.intro ?_ ?_; · first | trivial | omega | (intro hg; simp only [Bool.and_eq_true, Bool.or_eq_true, Bool.not_eq_true', Bool.and_eq_false_iff, Bool.or_eq_false_iff, Bool.not_eq_false', decide_eq_true_eq, decide_eq_false_iff_not, eqNil] at hg; omega) | (simp only [List.length_append, List.length_map, List.length_range, List.length_replicate, List.length_take, List.length_drop, List.length_cons, List.length_nil, List.length_set, List.length_reverse]; omega))
  apply hK; clear hK K
  refine awp_cond (b := _) rfl (fun hb1 => ?_) (fun hb1 => ?_)
  · exact absurd hb1 (by simp <;> omega)
  · try simp only [decide_eq_false_iff_not] at hb1
    refine awp_skip ?_
    change Awp _ _ _ _ _ _ _
    -- region 3  law.go:68
    refine awp_rseq [4] (by rfl) fun K hK => ?_
    simp (decide := true) only [aOps_nil, ev, absV, absS, putD, Slots.put, Slots.keep, if_true, if_false, true_and, ↓ap_assign, pop_assign]
    repeat (with_reducible refine And.intro ?_ ?_; · first | trivial | omega | (intro hg; simp only [Bool.and_eq_true, Bool.or_eq_true, Bool.not_eq_true', Bool.and_eq_false_iff, Bool.or_eq_false_iff, Bool.not_eq_false', decide_eq_true_eq, decide_eq_false_iff_not, eqNil] at hg; omega) | (simp only [List.length_append, List.length_map, List.length_range, List.length_replicate, List.length_take, List.length_drop, List.length_cons, List.length_nil, List.length_set, List.length_reverse]; omega))
    apply hK; clear hK K
    refine awp_ret ?_
    try simp only [thenA_ret, inBlockA_ret]
    refine retA_ret h (by repeat (first | exact Sub.refl _ | assumption | refine Sub.trans_set ?_ (by assumption))) (resPre_tmp (resPre_nil)) ?_
    simp (decide := true) only [Slots.get, if_true, and_true, resOf_one]
    all_goals first | rfl | exact ⟨rfl, rfl⟩ | (simp (decide := true) only [if_true, if_false, *]; done) | (trace_state; fail)
/-- A slice of ints whose row lies in the heap. -/
def HoldsZ (h : AHeap) (z : AVal) (zs : List Int) : Prop := (z = .nilSlice ∧ zs = []) ∨ ∃ k c, z = .slice (.own k) 0 zs.length c ∧ h k = some ⟨intCells zs, 0⟩
theorem HoldsZ.sub {h h' : AHeap} {z : AVal} {zs : List Int} (hz : HoldsZ h z zs) (hs : Sub h h') : HoldsZ h' z zs := by
  rcases hz with e | ⟨k, c, e1, e2⟩
  · exact .inl e
  · exact .inr ⟨k, c, e1, hs k _ e2⟩
theorem c_digit (w₀ : World) (h : AHeap) (neg : Bool) (z : AVal) (zs : List Int) (hz : HoldsZ h z zs) (hl : zs.length ≤ 1048576) (i : Nat) (hi : i ≤ 1048576) :
    ACall Tryz.prog w₀ 55 [.agg [.bool neg, z], .int .i64 i] h (fun v h' => v = .int .i64 (zs.getD i 0) ∧ h' = h) := by
  rcases hz with ⟨rfl, rfl⟩ | ⟨k, c, rfl, hk⟩
  · exact c_digitN w₀ h neg i hi
  · exact c_digitO w₀ h neg k zs c hk hl i hi

/-- The value of a row of digits, the last place first. -/
def leV (zs : List Int) : Int := valL zs.reverse
theorem leV_snoc (zs : List Int) (z : Int) : leV (zs ++ [z]) = z * 10 ^ zs.length + leV zs := by
  unfold leV
  rw [List.reverse_append, List.reverse_singleton, List.singleton_append, valL_cons, List.length_reverse]
theorem leV_cons (z : Int) (zs : List Int) : leV (z :: zs) = 10 * leV zs + z := by
  unfold leV
  rw [List.reverse_cons, valL_append, valL_cons]
  simp [valL]
  omega
def digZ (zs : List Int) : Prop := ∀ z ∈ zs, 0 ≤ z ∧ z ≤ 9
theorem leV_bound : ∀ (zs : List Int), digZ zs → 0 ≤ leV zs ∧ leV zs < 10 ^ zs.length
  | [], _ => by simp [leV, valL]
  | z :: zs, h => by
    have h1 := h z (List.mem_cons_self ..)
    obtain ⟨h2, h3⟩ := leV_bound zs fun x hx => h x (List.mem_cons_of_mem _ hx)
    rw [leV_cons, List.length_cons, Int.pow_succ]
    omega
end Go.Proofs.YthiiakghjoeikaaGreatDoor

/-
  The statements' big numbers: their order.
  Conditions: none.
-/
namespace Go.Proofs.YthiiakghjoeikaaGreatDoor
open Go.AM
open Go.Proofs
open Go.Dec
open Go.Lib (decDigits)
set_option maxRecDepth 100000

theorem HoldsZ.len {h : AHeap} {z : AVal} {zs : List Int} (hz : HoldsZ h z zs) {P : Program} {t e : TypeId} (ht : P.underlying t = some (.slice e)) : pLen P t z = ⟨True, .int .i64 zs.length⟩ := by
  rcases hz with ⟨rfl, rfl⟩ | ⟨k, c, rfl, _⟩ <;> simp [pLen, ht]
theorem HoldsZ.live {h : AHeap} {z : AVal} {zs : List Int} (hz : HoldsZ h z zs) : z.live = true := by
  rcases hz with ⟨rfl, rfl⟩ | ⟨k, c, rfl, _⟩ <;> rfl
theorem tail_getD (zs : List Int) (j : Nat) : zs.tail.getD j 0 = zs.getD (j + 1) 0 := by
  cases zs <;> rfl
theorem leV_step (zs : List Int) : leV zs = 10 * leV zs.tail + zs.getD 0 0 := by
  cases zs with
  | nil => rfl
  | cons z zs => exact leV_cons z zs
theorem digZ.tail {zs : List Int} (h : digZ zs) : digZ zs.tail := by
  cases zs with
  | nil => exact h
  | cons z zs => exact fun x hx => h x (List.mem_cons_of_mem _ hx)
theorem digZ.at {zs : List Int} (h : digZ zs) (j : Nat) : 0 ≤ zs.getD j 0 ∧ zs.getD j 0 ≤ 9 := by
  by_cases hj : j < zs.length
  · rw [List.getD, List.getElem?_eq_getElem hj]
    exact h _ (List.getElem_mem hj)
  · rw [List.getD, List.getElem?_eq_none (by omega)]
    exact ⟨by decide, by decide⟩
theorem leV_ext : ∀ (n : Nat) (x y : List Int), x.length ≤ n → y.length ≤ n → (∀ j, x.getD j 0 = y.getD j 0) → leV x = leV y
  | 0, x, y, hx, hy, _ => by
    rw [List.length_eq_zero_iff.1 (Nat.le_zero.1 hx), List.length_eq_zero_iff.1 (Nat.le_zero.1 hy)]
  | n + 1, x, y, hx, hy, h => by
    rw [leV_step x, leV_step y, h 0, leV_ext n x.tail y.tail (by rw [List.length_tail]; omega) (by rw [List.length_tail]; omega) fun j => by rw [tail_getD, tail_getD, h]]
theorem leV_lt : ∀ (i : Nat) (x y : List Int), digZ x → digZ y → (∀ j, i < j → x.getD j 0 = y.getD j 0) → x.getD i 0 < y.getD i 0 → leV x < leV y
  | 0, x, y, _, _, h, hl => by
    have e := leV_ext (max x.length y.length) x.tail y.tail (by rw [List.length_tail]; omega) (by rw [List.length_tail]; omega) fun j => by rw [tail_getD, tail_getD, h (j + 1) (by omega)]
    rw [leV_step x, leV_step y]
    omega
  | i + 1, x, y, hx, hy, h, hl => by
    have e := leV_lt i x.tail y.tail hx.tail hy.tail (fun j hj => by rw [tail_getD, tail_getD, h (j + 1) (by omega)]) (by rw [tail_getD, tail_getD]; exact hl)
    have a := hx.at 0
    have b := hy.at 0
    rw [leV_step x, leV_step y]
    omega

set_option maxHeartbeats 1000000 in
theorem c_less (w₀ : World) (h : AHeap) (n1 n2 : Bool) (z1 z2 : AVal) (x y : List Int) (hz1 : HoldsZ h z1 x) (hz2 : HoldsZ h z2 y) (hx : digZ x) (hy : digZ y) (lx : x.length ≤ 1000000) (ly : y.length ≤ 1000000) :
    ACall Tryz.prog w₀ 28 [.agg [.bool n1, z1], .agg [.bool n2, z2]] h (fun v h' => v = .bool (decide (leV x < leV y)) ∧ h' = h) := by
  have hl1 := hz1.live
  have hl2 := hz2.live
  refine acall_intro (n := 32) (rs := [.tmp 4]) Tryz.func28 rfl rfl rfl rfl (Nat.le_of_ble_eq_true rfl) ?_
  simp only [initSlots]
  -- region 0  law.go:72
  refine awp_rseq [2, 3] (by rfl) fun K hK => ?_
  refine aOps_box (by rfl) (by rfl) (by rfl) fun k0q0 hk0q0 => ?_
  try have hf_0q0 : h k0q0 = none := by first | assumption | (simp only [AHeap.set_none] at hk0q0; simp only [hk0q0])
  skip
  refine aOps_box (by rfl) (by rfl) (by rfl) fun k0q1 hk0q1 => ?_
  have ne_0q1_0q0 : k0q1 ≠ k0q0 := by simp only [AHeap.set_none] at hk0q1; simp only [hk0q1, ne_eq, not_false_eq_true]
  try have hf_0q1 : h k0q1 = none := by first | assumption | (simp only [AHeap.set_none] at hk0q1; simp only [hk0q1])
  skip
  simp (decide := true) only [aOps_nil, ev, absV, absS, putD, Slots.put, Slots.get, Slots.keep, if_true, if_false, true_and, ↓ap_assign, pop_assign, AVal.cells, Nat.zero_add]
  repeat (with_reducible refine And.intro ?_ ?_; · first | trivial | omega | (intro hg; simp only [Bool.and_eq_true, Bool.or_eq_true, Bool.not_eq_true', Bool.and_eq_false_iff, Bool.or_eq_false_iff, Bool.not_eq_false', decide_eq_true_eq, decide_eq_false_iff_not, eqNil] at hg; omega) | (simp only [List.length_append, List.length_map, List.length_range, List.length_replicate, List.length_take, List.length_drop, List.length_cons, List.length_nil, List.length_set, List.length_reverse]; omega))
  apply hK; clear hK K
  refine awp_seq ?_
  -- region 1  law.go:73
  refine awp_rseq [2, 3, 5] (by rfl) fun K hK => ?_
  simp (decide := true) only [aOps_nil, ev, absV, absS, putD, Slots.put, Slots.get, Slots.keep, if_true, if_false, true_and, ↓ap_fieldAddr, pop_fieldAddr, fa40_1, ↓ap_loadL, apL_mk, pLoad_one ag38, ↓ap_len, pop_len, ↓ap_max, pop_max, pMax_int, evs, List.map_cons, List.map_nil, ↓ap_binOp, pop_binOp, isNilC_int, cond_false, pBinX_int, pI_sub, ↓ap_assign, pop_assign, rd_ne', ne_eq, not_false_eq_true, ne_0q1_0q0.symm, rd_any, List.getD_cons_zero, List.getD_cons_succ, Nat.zero_add, hl1, hl2, hz1.len Tryz.underlying38, hz2.len Tryz.underlying38]
  try simp (disch := omega) only [wrap_i64]
  repeat (with_reducible refine And.intro ?_ ?_; · first | trivial | omega | (intro hg; simp only [Bool.and_eq_true, Bool.or_eq_true, Bool.not_eq_true', Bool.and_eq_false_iff, Bool.or_eq_false_iff, Bool.not_eq_false', decide_eq_true_eq, decide_eq_false_iff_not, eqNil] at hg; omega) | (simp only [List.length_append, List.length_map, List.length_range, List.length_replicate, List.length_take, List.length_drop, List.length_cons, List.length_nil, List.length_set, List.length_reverse]; omega))
  apply hK; clear hK K
  refine awp_block ?_
  refine awp_loopG [2, 3, 5] (fun g : Nat => [(2, .ptr (.own k0q0) 0), (3, .ptr (.own k0q1) 0), (5, .int .i64 ((g : Int) - 1))]) (fun g : Nat => (h.set k0q0 ⟨[.bool n1, z1], 0⟩).set k0q1 ⟨[.bool n2, z2], 0⟩) (fun g : Nat => g ≤ 1000000 ∧ ∀ j, g ≤ j → x.getD j 0 = y.getD j 0) (fun g : Nat => g) (max x.length y.length) (by simp [Slots.keep]; omega) (Sub.refl _) ⟨by omega, fun j hj => by rw [List.getD, List.getD, List.getElem?_eq_none (by omega), List.getElem?_eq_none (by omega)]⟩ ?_
  rintro g ⟨hg, hgj⟩
  have hm1 : HoldsZ ((h.set k0q0 ⟨[.bool n1, z1], 0⟩).set k0q1 ⟨[.bool n2, z2], 0⟩) z1 x := hz1.sub (by repeat (first | exact Sub.refl _ | refine Sub.trans_set ?_ (by assumption)))
  have hm2 : HoldsZ ((h.set k0q0 ⟨[.bool n1, z1], 0⟩).set k0q1 ⟨[.bool n2, z2], 0⟩) z2 y := hz2.sub (by repeat (first | exact Sub.refl _ | refine Sub.trans_set ?_ (by assumption)))
  refine awp_seq ?_
  -- region 2  law.go:73
  refine awp_rseq [2, 3, 5, 15] (by rfl) fun K hK => ?_
  simp (decide := true) only [aOps_nil, ev, absV, absS, putD, Slots.put, Slots.get, Slots.keep, if_true, if_false, true_and, ↓ap_move, pop_move, ↓ap_binOp, pop_binOp, isNilC_int, cond_false, pBinX_int, pI_geq]
  repeat (with_reducible refine And.intro ?_ ?_; · first | trivial | omega | (intro hg; simp only [Bool.and_eq_true, Bool.or_eq_true, Bool.not_eq_true', Bool.and_eq_false_iff, Bool.or_eq_false_iff, Bool.not_eq_false', decide_eq_true_eq, decide_eq_false_iff_not, eqNil] at hg; omega) | (simp only [List.length_append, List.length_map, List.length_range, List.length_replicate, List.length_take, List.length_drop, List.length_cons, List.length_nil, List.length_set, List.length_reverse]; omega))
  apply hK; clear hK K
  refine awp_cond (b := _) rfl (fun hb1 => ?_) (fun hb1 => ?_)
  · try simp only [decide_eq_true_eq] at hb1
    obtain ⟨q, rfl⟩ : ∃ q, g = q + 1 := ⟨g - 1, by omega⟩
    have hq : ((q + 1 : Nat) : Int) - 1 = q := by omega
    rw [hq]
    refine awp_skip ?_
    change Awp _ _ _ _ _ _ _
    refine awp_seq ?_
    refine awp_block ?_
    -- region 4  law.go:74
    refine awp_dseq_any [2, 3, 5, 24] mixed (by kernel_rfl) (by rfl) fun K hK => ?_
    simp (decide := true) only [ev, putD, Slots.put, Slots.get, if_true, if_false, true_and, ↓vp_load, pop_load, pLoad_agg ag40 sz40, ↓vp_move, pop_move, rd_ne', ne_eq, not_false_eq_true, ne_0q1_0q0.symm, rd_any, cellsAt, List.getD_cons_zero, List.getD_cons_succ, Nat.zero_add, lv_bool, allLive, Bool.and_true, hl1]
    repeat (with_reducible refine And.intro ?_ ?_; · first | trivial | omega | (intro hg; simp only [Bool.and_eq_true, Bool.or_eq_true, Bool.not_eq_true', Bool.and_eq_false_iff, Bool.or_eq_false_iff, Bool.not_eq_false', decide_eq_true_eq, decide_eq_false_iff_not, eqNil] at hg; omega) | (simp only [List.length_append, List.length_map, List.length_range, List.length_replicate, List.length_take, List.length_drop, List.length_cons, List.length_nil, List.length_set, List.length_reverse]; omega))
    refine vOps_callV (V := .int .i64 (x.getD q 0)) (by rfl) (by rfl) (c_digit w₀ _ n1 z1 x hm1 (by omega) q (by omega)) ?_
    simp (decide := true) only [ev, putD, Slots.put, Slots.get, if_true, if_false, true_and, ↓vp_load, pop_load, pLoad_agg ag40 sz40, ↓vp_move, pop_move, rd_any, cellsAt, List.getD_cons_zero, List.getD_cons_succ, Nat.zero_add, lv_bool, allLive, Bool.and_true, hl2]
    repeat (with_reducible refine And.intro ?_ ?_; · first | trivial | omega | (intro hg; simp only [Bool.and_eq_true, Bool.or_eq_true, Bool.not_eq_true', Bool.and_eq_false_iff, Bool.or_eq_false_iff, Bool.not_eq_false', decide_eq_true_eq, decide_eq_false_iff_not, eqNil] at hg; omega) | (simp only [List.length_append, List.length_map, List.length_range, List.length_replicate, List.length_take, List.length_drop, List.length_cons, List.length_nil, List.length_set, List.length_reverse]; omega))
    refine vOps_callV (V := .int .i64 (y.getD q 0)) (by rfl) (by rfl) (c_digit w₀ _ n2 z2 y hm2 (by omega) q (by omega)) ?_
    simp (decide := true) only [vOps_nil, ev, putD, Slots.put, Slots.get, Slots.keep, if_true, if_false, true_and, ↓vp_binOp, pop_binOp, isNilC_tmp, cond_false, pBinX_int, pI_neq]
    repeat (with_reducible refine And.intro ?_ ?_; · first | trivial | omega | (intro hg; simp only [Bool.and_eq_true, Bool.or_eq_true, Bool.not_eq_true', Bool.and_eq_false_iff, Bool.or_eq_false_iff, Bool.not_eq_false', decide_eq_true_eq, decide_eq_false_iff_not, eqNil] at hg; omega) | (simp only [List.length_append, List.length_map, List.length_range, List.length_replicate, List.length_take, List.length_drop, List.length_cons, List.length_nil, List.length_set, List.length_reverse]; omega))
    apply hK; clear hK K
    refine awp_cond (b := _) rfl (fun hb2 => ?_) (fun hb2 => ?_)
    · try simp only [decide_eq_false_iff_not, Bool.not_eq_true'] at hb2
      -- region 5  law.go:75
      refine awp_dseq_any [4] mixed (by kernel_rfl) (by rfl) fun K hK => ?_
      simp (decide := true) only [ev, putD, Slots.put, Slots.get, if_true, if_false, true_and, ↓vp_load, pop_load, pLoad_agg ag40 sz40, ↓vp_move, pop_move, rd_ne', ne_eq, not_false_eq_true, ne_0q1_0q0.symm, rd_any, cellsAt, List.getD_cons_zero, List.getD_cons_succ, Nat.zero_add, lv_bool, allLive, Bool.and_true, hl1]
      repeat (with_reducible refine And.intro ?_ ?_; · first | trivial | omega | (intro hg; simp only [Bool.and_eq_true, Bool.or_eq_true, Bool.not_eq_true', Bool.and_eq_false_iff, Bool.or_eq_false_iff, Bool.not_eq_false', decide_eq_true_eq, decide_eq_false_iff_not, eqNil] at hg; omega) | (simp only [List.length_append, List.length_map, List.length_range, List.length_replicate, List.length_take, List.length_drop, List.length_cons, List.length_nil, List.length_set, List.length_reverse]; omega))
      refine vOps_callV (V := .int .i64 (x.getD q 0)) (by rfl) (by rfl) (c_digit w₀ _ n1 z1 x hm1 (by omega) q (by omega)) ?_
      simp (decide := true) only [ev, putD, Slots.put, Slots.get, if_true, if_false, true_and, ↓vp_load, pop_load, pLoad_agg ag40 sz40, ↓vp_move, pop_move, rd_any, cellsAt, List.getD_cons_zero, List.getD_cons_succ, Nat.zero_add, lv_bool, allLive, Bool.and_true, hl2]
      repeat (with_reducible refine And.intro ?_ ?_; · first | trivial | omega | (intro hg; simp only [Bool.and_eq_true, Bool.or_eq_true, Bool.not_eq_true', Bool.and_eq_false_iff, Bool.or_eq_false_iff, Bool.not_eq_false', decide_eq_true_eq, decide_eq_false_iff_not, eqNil] at hg; omega) | (simp only [List.length_append, List.length_map, List.length_range, List.length_replicate, List.length_take, List.length_drop, List.length_cons, List.length_nil, List.length_set, List.length_reverse]; omega))
      refine vOps_callV (V := .int .i64 (y.getD q 0)) (by rfl) (by rfl) (c_digit w₀ _ n2 z2 y hm2 (by omega) q (by omega)) ?_
      simp (decide := true) only [vOps_nil, ev, putD, Slots.put, Slots.get, Slots.keep, if_true, if_false, true_and, ↓vp_binOp, pop_binOp, isNilC_tmp, cond_false, pBinX_int, pI_lss, ↓vp_assign, pop_assign]
      repeat (with_reducible refine And.intro ?_ ?_; · first | trivial | omega | (intro hg; simp only [Bool.and_eq_true, Bool.or_eq_true, Bool.not_eq_true', Bool.and_eq_false_iff, Bool.or_eq_false_iff, Bool.not_eq_false', decide_eq_true_eq, decide_eq_false_iff_not, eqNil] at hg; omega) | (simp only [List.length_append, List.length_map, List.length_range, List.length_replicate, List.length_take, List.length_drop, List.length_cons, List.length_nil, List.length_set, List.length_reverse]; omega))
      apply hK; clear hK K
      refine awp_ret ?_
      try simp only [thenA_ret, inBlockA_ret]
      refine retA_ret h (by repeat (first | exact Sub.refl _ | assumption | refine Sub.trans_set ?_ (by assumption))) (resPre_tmp (resPre_nil)) ?_
      simp (decide := true) only [Slots.get, if_true, and_true, resOf_one]
      have hlt := leV_lt q x y hx hy (fun j hj => hgj j (by omega))
      have hgt := leV_lt q y x hy hx (fun j hj => (hgj j (by omega)).symm)
      by_cases c : x.getD q 0 < y.getD q 0
      · rw [decide_eq_true c, decide_eq_true (hlt c)]
      · have := hgt (by omega)
        rw [decide_eq_false c, decide_eq_false (by omega)]
    · try simp only [decide_eq_true_eq, Bool.not_eq_false'] at hb2
      refine awp_skip ?_
      change Awp _ _ _ _ _ _ _
      -- region 3  law.go:73
      refine awp_r [2, 3, 5] (by rfl) ?_
      simp (decide := true) only [aOps_nil, ev, absV, absS, putD, Slots.put, Slots.get, Slots.keep, if_true, if_false, true_and, ↓ap_move, pop_move, ↓ap_binOp, pop_binOp, isNilC_int, cond_false, pBinX_int, pI_sub, ↓ap_assign, pop_assign]
      try simp (disch := omega) only [wrap_i64]
      repeat (with_reducible refine And.intro ?_ ?_; · first | trivial | omega | (intro hg; simp only [Bool.and_eq_true, Bool.or_eq_true, Bool.not_eq_true', Bool.and_eq_false_iff, Bool.or_eq_false_iff, Bool.not_eq_false', decide_eq_true_eq, decide_eq_false_iff_not, eqNil] at hg; omega) | (simp only [List.length_append, List.length_map, List.length_range, List.length_replicate, List.length_take, List.length_drop, List.length_cons, List.length_nil, List.length_set, List.length_reverse]; omega))
      try simp only [thenA_normal]
      refine ⟨q, by rfl, Sub.refl _, ⟨by omega, fun j hj => ?_⟩, by omega⟩
      by_cases e : q = j
      · rw [← e]; omega
      · exact hgj j (by omega)
  · try simp only [decide_eq_false_iff_not] at hb1
    have hg0 : g = 0 := by omega
    refine awp_exit ?_
    change Awp _ _ _ _ _ _ _
    -- region 6  law.go:78
    refine awp_rseq [4] (by rfl) fun K hK => ?_
    simp (decide := true) only [aOps_nil, ev, absV, absS, putD, Slots.put, Slots.keep, if_true, if_false, true_and, ↓ap_assign, pop_assign]
    repeat (with_reducible refine And.intro ?_ ?_; · first | trivial | omega | (intro hg; simp only [Bool.and_eq_true, Bool.or_eq_true, Bool.not_eq_true', Bool.and_eq_false_iff, Bool.or_eq_false_iff, Bool.not_eq_false', decide_eq_true_eq, decide_eq_false_iff_not, eqNil] at hg; omega) | (simp only [List.length_append, List.length_map, List.length_range, List.length_replicate, List.length_take, List.length_drop, List.length_cons, List.length_nil, List.length_set, List.length_reverse]; omega))
    apply hK; clear hK K
    refine awp_ret ?_
    try simp only [thenA_ret, inBlockA_ret]
    refine retA_ret h (by repeat (first | exact Sub.refl _ | assumption | refine Sub.trans_set ?_ (by assumption))) (resPre_tmp (resPre_nil)) ?_
    simp (decide := true) only [Slots.get, if_true, and_true, resOf_one]
    have e := leV_ext (max x.length y.length) x y (by omega) (by omega) fun j => hgj j (by omega)
    rw [e, decide_eq_false (by omega)]
end Go.Proofs.YthiiakghjoeikaaGreatDoor

/-
  Decimals as numbers.
  Conditions: none.
-/
namespace Go.Proofs.YthiiakghjoeikaaGreatDoor
open Go.AM
open Go.Proofs
open Go.Dec
open Go.Lib (decDigits)
set_option maxRecDepth 100000

theorem canon_bound (neg : Bool) (n k L : Nat) (hL : 0 < L) (hn : n < 10 ^ L) : (canon neg n k).dig.length ≤ L ∧ (canon neg n k).scale ≤ k := by
  unfold canon
  split
  · exact ⟨by show 1 ≤ L; omega, by show (0 : Int) ≤ k; omega⟩
  · obtain ⟨h1, h2⟩ := strip_val k n
    refine ⟨(decDigits_lt hL).2 (Nat.lt_of_le_of_lt ?_ hn), by simp only; omega⟩
    have h3 : 10 ^ (strip n k).2 ≤ 10 ^ k := Nat.pow_le_pow_right (by omega) h2
    have h4 : (strip n k).1 * 10 ^ k ≤ n * 10 ^ k := by rw [h1]; exact Nat.mul_le_mul_left _ h3
    exact Nat.le_of_mul_le_mul_right h4 (Nat.pow_pos (by omega))
theorem canon_scale (neg : Bool) (n k : Nat) : 0 ≤ (canon neg n k).scale := by
  unfold canon
  split
  · decide
  · simp only; omega
theorem canon_all (neg : Bool) (n k : Nat) : (canon neg n k).dig.all dg = true := by
  unfold canon
  split
  · decide
  · exact decDigits_all _
theorem natOf_canon (neg : Bool) (n k : Nat) : natOf (canon neg n k).dig = (if n = 0 then 0 else (strip n k).1) ∧ (canon neg n k).scale = (if n = 0 then (0 : Int) else ((strip n k).2 : Int)) ∧ (canon neg n k).neg = (if n = 0 then false else neg) := by
  unfold canon
  split
  · exact ⟨rfl, rfl, rfl⟩
  · exact ⟨natOf_decDigits _, rfl, rfl⟩
theorem canon_at (neg : Bool) (n k : Nat) : natOf (canon neg n k).dig * 10 ^ (k - (canon neg n k).scale.toNat) = n ∧ (canon neg n k).scale.toNat ≤ k := by
  obtain ⟨h1, h2, _⟩ := natOf_canon neg n k
  by_cases hn : n = 0
  · rw [h1, h2, if_pos hn, if_pos hn, hn]
    exact ⟨Nat.zero_mul _, Nat.zero_le _⟩
  · rw [h1, h2, if_neg hn, if_neg hn, Int.toNat_natCast]
    obtain ⟨s1, s2⟩ := strip_val k n
    refine ⟨?_, s2⟩
    have hp : 0 < 10 ^ (strip n k).2 := Nat.pow_pos (by omega)
    refine Nat.eq_of_mul_eq_mul_right hp ?_
    rw [Nat.mul_assoc, ← Nat.pow_add, Nat.sub_add_cancel s2, s1]
theorem canon_self (neg : Bool) (n k : Nat) : canon (canon neg n k).neg (natOf (canon neg n k).dig) (canon neg n k).scale.toNat = canon neg n k := by
  obtain ⟨h1, h2, h3⟩ := natOf_canon neg n k
  by_cases hn : n = 0
  · subst hn; rfl
  · rw [h1, h2, h3, if_neg hn, if_neg hn, if_neg hn, Int.toNat_natCast]
    have hs : strip (strip n k).1 (strip n k).2 = ((strip n k).1, (strip n k).2) := strip_done (strip_end k n)
    unfold canon
    rw [if_neg (strip_pos k n hn), if_neg hn, hs]
theorem canon_ne (neg : Bool) (n k : Nat) : (canon neg n k).dig ≠ [] := by
  unfold canon
  split
  · simp [zeroD]
  · exact decDigits_ne _
theorem check_canon (neg : Bool) (n k : Nat) (h : long (canon neg n k) ≤ 62) : checkE (canon neg n k) = 0 := by
  have h0 := canon_scale neg n k
  unfold long at h
  unfold checkE
  rw [if_pos]
  refine ⟨?_, by omega, h0, by omega, ?_⟩
  · unfold numB
    rw [canon_all, Bool.and_true, decide_eq_false (canon_ne neg n k)]
    rfl
  · rw [normE, show (-(canon neg n k).scale).toNat = 0 by omega, Nat.pow_zero, Nat.mul_one, canon_self, resE_ok (by unfold long; omega)]
theorem val_canon {d : D} (h : checkE d = 0) : d = canon d.neg (natOf d.dig) d.scale.toNat ∧ long d ≤ 62 := by
  obtain ⟨sd, _, _, hn⟩ := Small_of_check h
  have ha1 := sd.l
  have ha2 := sd.s0
  have ha3 := sd.s1
  have hl : long d ≤ 62 := by unfold long; omega
  rw [normE, show (-d.scale).toNat = 0 by omega, Nat.pow_zero, Nat.mul_one] at hn
  unfold resE at hn
  split at hn
  · cases hn
  · exact ⟨(Prod.mk.inj hn).1.symm, hl⟩
theorem long_canon (neg : Bool) (n k : Nat) (hn : n < 10 ^ 62) (hk : k ≤ 62) : long (canon neg n k) ≤ 62 := by
  obtain ⟨c1, c2⟩ := canon_bound neg n k 62 (by omega) hn
  unfold long
  omega
end Go.Proofs.YthiiakghjoeikaaGreatDoor

/-
  Numbers from plain data are numbers.
  Conditions: none.
-/
namespace Go.Proofs.YthiiakghjoeikaaGreatDoor
open Go.AM
open Go.Proofs
open Go.Dec
open Go.Lib (decDigits)
set_option maxRecDepth 100000

theorem ofN_check (neg : Bool) (bs : List UInt8) (sc : UInt8) : checkE (ofN neg bs sc) = 0 := by
  unfold ofN
  refine check_canon _ _ _ (long_canon _ _ _ ?_ (by omega))
  have h1 := natOf_lt _ (digN_all bs)
  rw [digN_len] at h1
  exact Nat.lt_of_lt_of_le h1 (Nat.pow_le_pow_right (by omega) (by omega))
theorem check_len {d : D} (h : checkE d = 0) : d.dig.length ≤ 9223372036854775807 := by
  have := (Small_of_check h).1.l
  omega
end Go.Proofs.YthiiakghjoeikaaGreatDoor

/-
  The statements' big numbers: as decimals.
  Conditions: none.
-/
namespace Go.Proofs.YthiiakghjoeikaaGreatDoor
open Go.AM
open Go.Proofs
open Go.Dec
open Go.Lib (decDigits)
set_option maxRecDepth 100000

end Go.Proofs.YthiiakghjoeikaaGreatDoor

/-
  A struct that holds a growing slice of ints: reading beside the slice's block, writing the struct.
  Conditions: none.
-/
namespace Go.Proofs.YthiiakghjoeikaaGreatDoor
open Go.AM
open Go.Proofs
open Go.Dec
open Go.Lib (decDigits)
set_option maxRecDepth 100000

theorem buf_ne {H : AHeap} {es : Nat} {b : Buf} (hb : bufOk H es (some b)) {j : Nat} {c : Blk} (hj : H j = some c) : j ≠ b.blk := fun e => by
  subst e
  have := hb.1
  rw [hj] at this
  cases this
theorem bufH_at {H : AHeap} {es : Nat} {b : Option Buf} (hb : bufOk H es b) {j : Nat} {c : Blk} (hj : H j = some c) : bufH H b j = some c := by
  cases b with
  | none => exact hj
  | some b => exact (AHeap.set_ne _ _ (buf_ne hb hj)).trans hj
theorem rd_buf (w₀ : World) {H : AHeap} {es : Nat} {b : Option Buf} (hb : bufOk H es b) {j : Nat} {c : Blk} (hj : H j = some c) (o : Nat) : rd w₀ (bufH H b) (.own j) o = c.cells.getD o .dead := rd_own w₀ (bufH_at hb hj) o
/-- The struct's block is written: the slice's block stays. -/
theorem bufH_set {H : AHeap} {es : Nat} {b : Option Buf} (hb : bufOk H es b) {j : Nat} {c : Blk} (hj : H j = some c) (c' : Blk) : bufH (H.set j c') b = (bufH H b).set j c' := by
  cases b with
  | none => rfl
  | some b => exact AHeap.set_comm _ _ _ (Ne.symm (buf_ne hb hj))
theorem bufOk_set {H : AHeap} {es : Nat} {b : Option Buf} (hb : bufOk H es b) {j : Nat} {c : Blk} (hj : H j = some c) (c' : Blk) : bufOk (H.set j c') es b := by
  cases b with
  | none => trivial
  | some b =>
    refine ⟨?_, hb.2⟩
    rw [AHeap.set_ne _ _ (Ne.symm (buf_ne hb hj))]
    exact hb.1
/-- What a growing slice of ints holds, as a slice that lies in the heap. -/
theorem holds_buf {H h : AHeap} {b : Option Buf} {zs : List Int} (hb : bufOk H 1 b) (hc : bufC b = intCells zs) (hs : Sub (bufH H b) h) : HoldsZ h (bufV 1 b) zs := by
  cases b with
  | none =>
    have : zs = [] := by
      have := congrArg List.length hc
      rw [intCells_length] at this
      exact List.length_eq_zero_iff.1 this.symm
    exact .inl ⟨rfl, this⟩
  | some b =>
    have hc' : b.cells = intCells zs := hc
    refine .inr ⟨b.blk, .grow 1, ?_, ?_⟩
    · show AVal.slice (.own b.blk) 0 (b.cells.length / 1) (.grow 1) = _
      rw [Nat.div_one, hc', intCells_length]
    · rw [← hc']
      exact hs _ _ (AHeap.set_same _ _ _)
/-- The value of a decimal's digits, the last place first, behind zeros. -/
theorem leV_zeros : ∀ (n : Nat) (zs : List Int), leV (List.replicate n 0 ++ zs) = leV zs * 10 ^ n
  | 0, zs => by simp
  | n + 1, zs => by
    rw [List.replicate_succ, List.cons_append, leV_cons, leV_zeros n zs, Int.pow_succ]
    rw [Int.add_zero, Int.mul_comm 10, Int.mul_assoc]
def digs (s : List UInt8) : List Int := s.reverse.map fun b => (dv b : Int)
theorem valL_dv : ∀ (s : List UInt8), valL (s.map fun b => (dv b : Int)) = (natOf s : Int)
  | [] => rfl
  | b :: s => by
    rw [List.map_cons, valL_cons, valL_dv s, natOf_cons, List.length_map]
    push_cast
    rfl
theorem leV_digs (s : List UInt8) : leV (digs s) = (natOf s : Int) := by
  unfold leV digs
  rw [← List.map_reverse, List.reverse_reverse, valL_dv]
theorem digs_digZ {s : List UInt8} (h : s.all dg = true) : digZ (digs s) := by
  intro x hx
  unfold digs at hx
  rw [List.mem_map] at hx
  obtain ⟨b, hb, rfl⟩ := hx
  rw [List.all_eq_true] at h
  have := (dg_iff b).1 (h b (List.mem_reverse.1 hb))
  have e : dv b = b.toNat - 48 := rfl
  omega
end Go.Proofs.YthiiakghjoeikaaGreatDoor

/-
  Decimals as whole numbers: of 62 places.
  Conditions: none.
-/
namespace Go.Proofs.YthiiakghjoeikaaGreatDoor
open Go.AM
open Go.Proofs
open Go.Dec
open Go.Lib (decDigits)
set_option maxRecDepth 100000

theorem canon_zero (neg : Bool) (k : Nat) : canon neg 0 k = zeroD := rfl
end Go.Proofs.YthiiakghjoeikaaGreatDoor

/-
  What the statements about sums and products ask, in plain Lean.
  Conditions: none.
-/
namespace Go.Proofs.YthiiakghjoeikaaGreatDoor
open Go.AM
open Go.Proofs
open Go.Dec
open Go.Lib (decDigits)
set_option maxRecDepth 100000

/-- A number with a sign. -/
def sgV (n : Bool) (m : Int) : Int := if n = true then -m else m
end Go.Proofs.YthiiakghjoeikaaGreatDoor

/-
  The statements' big numbers: whole.
  Conditions: none.
-/
namespace Go.Proofs.YthiiakghjoeikaaGreatDoor
open Go.AM
open Go.Proofs
open Go.Dec
open Go.Lib (decDigits)
set_option maxRecDepth 100000

theorem src_one (w₀ : World) (H : AHeap) (k : Nat) (z : Int) : srcPre w₀ (H.set k ⟨intCells [z], 0⟩) 1 1 (.slice (.own k) 0 1 (.exact 1)) ∧ srcCells w₀ (H.set k ⟨intCells [z], 0⟩) 1 1 (.slice (.own k) 0 1 (.exact 1)) = intCells [z] := by
  have e : cellsAt w₀ (H.set k ⟨intCells [z], 0⟩) (.own k) 0 (1 * 1) = intCells [z] := by
    rw [cellsAt_own (AHeap.set_same _ _ _) 0 1 (by simp [intCells])]
    rfl
  refine ⟨?_, e⟩
  show allLive (cellsAt w₀ (H.set k ⟨intCells [z], 0⟩) (.own k) 0 (1 * 1)) = true
  rw [e]
  rfl
theorem bufV_cells (es : Nat) (b : Option Buf) : (bufV es b).cells = [bufV es b] := by cases b <;> rfl
/-- A struct with a slice in its second cell, and the slice's block. -/
def bufS (H : AHeap) (k : Nat) (n : Bool) (b : Option Buf) : AHeap := bufH (H.set k ⟨[.bool n, bufV 1 b], 0⟩) b
theorem bufS_rd (w₀ : World) {H : AHeap} {k : Nat} {n : Bool} {b : Option Buf} (hb : bufOk (H.set k ⟨[.bool n, bufV 1 b], 0⟩) 1 b) (o : Nat) : rd w₀ (bufS H k n b) (.own k) o = [AVal.bool n, bufV 1 b].getD o .dead := rd_buf w₀ hb (AHeap.set_same _ _ _) o
theorem bufS_rd2 (w₀ : World) {H : AHeap} {k j : Nat} {n : Bool} {b : Option Buf} (hb : bufOk (H.set k ⟨[.bool n, bufV 1 b], 0⟩) 1 b) {c : Blk} (hj : H j = some c) (hne : j ≠ k) (o : Nat) : rd w₀ (bufS H k n b) (.own j) o = c.cells.getD o .dead := rd_buf w₀ hb ((AHeap.set_ne _ _ hne).trans hj) o
theorem bufS_store {H : AHeap} {k : Nat} {n : Bool} {b b' : Option Buf} {h' : AHeap} (hok : bufOk (H.set k ⟨[.bool n, bufV 1 b], 0⟩) 1 b') (hs : Sub (bufH (H.set k ⟨[.bool n, bufV 1 b], 0⟩) b') h') :
    Sub (bufS H k n b') (h'.set k ⟨[.bool n, bufV 1 b'], 0⟩) ∧ bufOk (H.set k ⟨[.bool n, bufV 1 b'], 0⟩) 1 b' := by
  have e1 := bufH_set hok (AHeap.set_same _ _ _) ⟨[.bool n, bufV 1 b'], 0⟩
  have e2 := bufOk_set hok (AHeap.set_same _ _ _) ⟨[.bool n, bufV 1 b'], 0⟩
  rw [AHeap.set_set] at e1 e2
  refine ⟨?_, e2⟩
  unfold bufS
  rw [e1]
  exact Sub.set_both hs _ _
/-- What is left behind where the struct is given back through the block j. -/
theorem bufS_done {h H : AHeap} {k j : Nat} {n : Bool} {b : Option Buf} {c X : Blk} {zs : List Int} (hok : bufOk (H.set k ⟨[.bool n, bufV 1 b], 0⟩) 1 b) (hj : (H.set k ⟨[.bool n, bufV 1 b], 0⟩) j = some c) (hc : bufC b = intCells zs)
    (hs : Sub h ((H.set k ⟨[.bool n, bufV 1 b], 0⟩).set j X)) : HoldsZ ((bufS H k n b).set j X) (bufV 1 b) zs ∧ Sub h ((bufS H k n b).set j X) := by
  have e1 := bufH_set hok hj X
  have e2 := bufOk_set hok hj X
  unfold bufS
  rw [← e1]
  exact ⟨holds_buf e2 hc (Sub.refl _), Sub.trans hs (Sub.buf e2)⟩
theorem bufS_sub {h H : AHeap} {k : Nat} {n : Bool} {b : Option Buf} (hok : bufOk (H.set k ⟨[.bool n, bufV 1 b], 0⟩) 1 b) (hs : Sub h (H.set k ⟨[.bool n, bufV 1 b], 0⟩)) : Sub h (bufS H k n b) := Sub.trans hs (Sub.buf hok)
theorem digs_drop {s : List UInt8} {q : Nat} (hq : q < s.length) : digs (s.drop q) = digs (s.drop (q + 1)) ++ [(dv (s.getD q 0) : Int)] := by
  unfold digs
  rw [List.drop_eq_getElem_cons hq, List.reverse_cons, List.map_append, List.getD, List.getElem?_eq_getElem hq]
  rfl
theorem getD_mem' {s : List UInt8} {q : Nat} (h : q < s.length) : s.getD q 0 ∈ s := by
  rw [List.getD, List.getElem?_eq_getElem h]
  exact List.getElem_mem h
theorem digs_length (s : List UInt8) : (digs s).length = s.length := by simp [digs]
set_option maxHeartbeats 1000000 in
theorem c_whole (w₀ : World) (h : AHeap) (d : D) (cd : checkE d = 0) (S : Int) (h0 : d.scale ≤ S) (h1 : S ≤ 1000) :
    ACall Tryz.prog w₀ 23 [decA d, .int .i64 S] h (fun v h' => (∃ z, v = .agg [.bool d.neg, z] ∧ HoldsZ h' z (List.replicate (S - d.scale).toNat 0 ++ digs d.dig)) ∧ Sub h h') := by
  obtain ⟨sd, dd, _, _⟩ := Small_of_check cd
  have d0 := sd.s0
  have d1 := sd.s1
  have d2 := sd.l
  refine acall_intro (n := 44) (rs := [.cell 4 40]) Tryz.func23 rfl rfl rfl rfl (Nat.le_of_ble_eq_true rfl) ?_
  simp only [initSlots]
  -- region 0  law.go:52
  refine awp_rseq [1, 2, 4] (by rfl) fun K hK => ?_
  refine aOps_box (by rfl) (by rfl) (by rfl) fun k0q0 hk0q0 => ?_
  try have hf_0q0 : h k0q0 = none := by first | assumption | (simp only [AHeap.set_none] at hk0q0; simp only [hk0q0])
  skip
  refine aOps_alloc ze40 (cs := [.bool false, .nilSlice]) (by rfl) fun k0q1 hk0q1 => ?_
  have ne_0q1_0q0 : k0q1 ≠ k0q0 := by simp only [AHeap.set_none] at hk0q1; simp only [hk0q1, ne_eq, not_false_eq_true]
  try have hf_0q1 : h k0q1 = none := by first | assumption | (simp only [AHeap.set_none] at hk0q1; simp only [hk0q1])
  simp (decide := true) only [aOps_nil, ev, putD, Slots.put, Slots.get, Slots.keep, if_true, if_false, AVal.cells, Nat.zero_add, decA]
  repeat (with_reducible refine And.intro ?_ ?_; · first | trivial | omega | (intro hg; simp only [Bool.and_eq_true, Bool.or_eq_true, Bool.not_eq_true', Bool.and_eq_false_iff, Bool.or_eq_false_iff, Bool.not_eq_false', decide_eq_true_eq, decide_eq_false_iff_not, eqNil] at hg; omega) | (simp only [List.length_append, List.length_map, List.length_range, List.length_replicate, List.length_take, List.length_drop, List.length_cons, List.length_nil, List.length_set, List.length_reverse]; omega))
  apply hK; clear hK K
  -- region 1  law.go:53
  refine awp_rseq [1, 2, 4, 5] (by rfl) fun K hK => ?_
  simp (decide := true) only [ev, absV, absS, putD, Slots.put, Slots.get, if_true, if_false, true_and, ↓ap_fieldAddr, pop_fieldAddr, fa27_0, ↓ap_loadL, apL_mk, pLoad_one ag4, ↓ap_build, ↓pop_buildL, bld40_0, evP, List.map_cons, List.map_nil, rd_ne', ne_eq, not_false_eq_true, ne_0q1_0q0.symm, rd_any, List.getD_cons_zero, Nat.zero_add, lv_bool]
  repeat (with_reducible refine And.intro ?_ ?_; · first | trivial | omega | (intro hg; simp only [Bool.and_eq_true, Bool.or_eq_true, Bool.not_eq_true', Bool.and_eq_false_iff, Bool.or_eq_false_iff, Bool.not_eq_false', decide_eq_true_eq, decide_eq_false_iff_not, eqNil] at hg; omega) | (simp only [List.length_append, List.length_map, List.length_range, List.length_replicate, List.length_take, List.length_drop, List.length_cons, List.length_nil, List.length_set, List.length_reverse]; omega))
  refine aOps_alloc ze40 (cs := [.bool false, .nilSlice]) (by rfl) fun k1q3 hk1q3 => ?_
  have ne_1q3_0q0 : k1q3 ≠ k0q0 := by simp only [AHeap.set_none] at hk1q3; simp only [hk1q3, ne_eq, not_false_eq_true]
  have ne_1q3_0q1 : k1q3 ≠ k0q1 := by simp only [AHeap.set_none] at hk1q3; simp only [hk1q3, ne_eq, not_false_eq_true]
  try have hf_1q3 : h k1q3 = none := by first | assumption | (simp only [AHeap.set_none] at hk1q3; simp only [hk1q3])
  have e0 : ((h.set k0q0 ⟨[.bool d.neg, .str d.dig, .int .i64 d.scale], 0⟩).set k0q1 ⟨[.bool false, .nilSlice], 0⟩) k0q0 = some ⟨[.bool d.neg, .str d.dig, .int .i64 d.scale], 0⟩ := by rw [AHeap.set_ne _ _ ne_0q1_0q0.symm, AHeap.set_same]
  refine aOps_store (by rfl) (by rfl) (by repeat (first | exact AHeap.set_same _ _ _ | assumption | refine (AHeap.set_ne _ _ (by first | assumption | exact Ne.symm (by assumption))).trans ?_)) sz40 (by rfl) (by rfl) (by first | exact Nat.le_refl _ | decide | (simp; done) | (simp; omega)) (Nat.zero_le _) (by rfl) ?_
  simp only [AHeap.set_set, AVal.cells]
  simp (decide := true) only [aOps_nil, ev, putD, Slots.put, Slots.get, Slots.keep, if_true, if_false, setAt, List.set_cons_zero, List.set_cons_succ, Nat.zero_add]
  repeat (with_reducible refine And.intro ?_ ?_; · first | trivial | omega | (intro hg; simp only [Bool.and_eq_true, Bool.or_eq_true, Bool.not_eq_true', Bool.and_eq_false_iff, Bool.or_eq_false_iff, Bool.not_eq_false', decide_eq_true_eq, decide_eq_false_iff_not, eqNil] at hg; omega) | (simp only [List.length_append, List.length_map, List.length_range, List.length_replicate, List.length_take, List.length_drop, List.length_cons, List.length_nil, List.length_set, List.length_reverse]; omega))
  apply hK; clear hK K
  refine awp_seq ?_
  -- region 2  law.go:54
  refine awp_rseq [1, 2, 4, 5, 6] (by rfl) fun K hK => ?_
  simp (decide := true) only [aOps_nil, ev, absV, absS, putD, Slots.put, Slots.keep, if_true, if_false, true_and, ↓ap_assign, pop_assign]
  repeat (with_reducible refine And.intro ?_ ?_; · first | trivial | omega | (intro hg; simp only [Bool.and_eq_true, Bool.or_eq_true, Bool.not_eq_true', Bool.and_eq_false_iff, Bool.or_eq_false_iff, Bool.not_eq_false', decide_eq_true_eq, decide_eq_false_iff_not, eqNil] at hg; omega) | (simp only [List.length_append, List.length_map, List.length_range, List.length_replicate, List.length_take, List.length_drop, List.length_cons, List.length_nil, List.length_set, List.length_reverse]; omega))
  apply hK; clear hK K
  refine awp_block ?_
  refine awp_loopG [1, 2, 4, 5, 6] (fun g : Nat × Option Buf => [(1, .int .i64 S), (2, .ptr (.own k0q0) 0), (4, .ptr (.own k0q1) 0), (5, .ptr (.own k1q3) 0), (6, .int .i64 g.1)]) (fun g : Nat × Option Buf => bufS ((h.set k0q0 ⟨[.bool d.neg, .str d.dig, .int .i64 d.scale], 0⟩).set k0q1 ⟨[.bool false, .nilSlice], 0⟩) k1q3 d.neg g.2) (fun g : Nat × Option Buf => (g.1 : Int) ≤ S - d.scale ∧ bufOk (((h.set k0q0 ⟨[.bool d.neg, .str d.dig, .int .i64 d.scale], 0⟩).set k0q1 ⟨[.bool false, .nilSlice], 0⟩).set k1q3 ⟨[.bool d.neg, bufV 1 g.2], 0⟩) 1 g.2 ∧ bufC g.2 = intCells (List.replicate g.1 0)) (fun g : Nat × Option Buf => 2000 - g.1) (0, none) (by rfl) (Sub.refl _) ⟨by omega, trivial, rfl⟩ ?_
  rintro ⟨i, b⟩ ⟨hi, hok, hc⟩
  simp only at hi hok hc ⊢
  have hlb : (bufC b).length ≤ 1000 := by rw [hc, intCells_length, List.length_replicate]; omega
  refine awp_seq ?_
  -- region 3  law.go:54
  refine awp_rseq [1, 2, 4, 5, 6, 16] (by rfl) fun K hK => ?_
  simp (decide := true) only [aOps_nil, ev, putD, Slots.put, Slots.get, Slots.keep, if_true, if_false, true_and, ↓ap_move, pop_move, ↓ap_fieldAddr, pop_fieldAddr, fa27_2, ↓ap_loadL, apL_mk, pLoad_one ag3, ↓ap_binOp, pop_binOp, isNilC_tmp, cond_false, pBinX_int, pI_sub, pI_lss, List.getD_cons_zero, List.getD_cons_succ, Nat.zero_add, lv_int, bufS_rd2 w₀ hok e0 ne_1q3_0q0.symm]
  try simp (disch := omega) only [wrap_i64]
  repeat (with_reducible refine And.intro ?_ ?_; · first | trivial | omega | (intro hg; simp only [Bool.and_eq_true, Bool.or_eq_true, Bool.not_eq_true', Bool.and_eq_false_iff, Bool.or_eq_false_iff, Bool.not_eq_false', decide_eq_true_eq, decide_eq_false_iff_not, eqNil] at hg; omega) | (simp only [List.length_append, List.length_map, List.length_range, List.length_replicate, List.length_take, List.length_drop, List.length_cons, List.length_nil, List.length_set, List.length_reverse]; omega))
  apply hK; clear hK K
  refine awp_cond (b := _) rfl (fun hb1 => ?_) (fun hb1 => ?_)
  · try simp only [decide_eq_true_eq] at hb1
    refine awp_skip ?_
    change Awp _ _ _ _ _ _ _
    refine awp_seq ?_
    refine awp_block ?_
    -- region 5  law.go:55
    refine awp_r [1, 2, 4, 5, 6] (by rfl) ?_
    simp (decide := true) only [ev, putD, Slots.put, Slots.get, if_true, if_false, true_and, ↓ap_fieldAddr, pop_fieldAddr, fa40_1, ↓ap_loadL, apL_mk, pLoad_one ag38, List.getD_cons_zero, List.getD_cons_succ, Nat.zero_add, bufS_rd w₀ hok, bufV_live]
    repeat (with_reducible refine And.intro ?_ ?_; · first | trivial | omega | (intro hg; simp only [Bool.and_eq_true, Bool.or_eq_true, Bool.not_eq_true', Bool.and_eq_false_iff, Bool.or_eq_false_iff, Bool.not_eq_false', decide_eq_true_eq, decide_eq_false_iff_not, eqNil] at hg; omega) | (simp only [List.length_append, List.length_map, List.length_range, List.length_replicate, List.length_take, List.length_drop, List.length_cons, List.length_nil, List.length_set, List.length_reverse]; omega))
    refine aOps_buildSlice (cs := intCells [0]) (by kernel_rfl) fun k5q2 hk5q2 => ?_
    refine aOps_appendBuf (h₀ := ((h.set k0q0 ⟨[.bool d.neg, .str d.dig, .int .i64 d.scale], 0⟩).set k0q1 ⟨[.bool false, .nilSlice], 0⟩).set k1q3 ⟨[.bool d.neg, bufV 1 b], 0⟩) (b := b) (src := intCells [0]) (by rfl) (by rfl) Tryz.underlying38 Tryz.underlying38 (by intro k e; cases e) sz3 by3 ze3 (by rfl) (by decide) (by rfl) hok (Sub.set hk5q2) (by rfl) (by rfl) (src_one w₀ _ _ _).1 (src_one w₀ _ _ _).2 (by rfl) (by rfl) (by rfl) (by omega) (by omega) fun b' h' hok' hc' hs' => ?_
    simp (decide := true) only [ev, putD, Slots.put, Slots.get, if_true, if_false, true_and, ↓ap_fieldAddr, pop_fieldAddr, fa40_1, Nat.zero_add]
    repeat (with_reducible refine And.intro ?_ ?_; · first | trivial | omega | (intro hg; simp only [Bool.and_eq_true, Bool.or_eq_true, Bool.not_eq_true', Bool.and_eq_false_iff, Bool.or_eq_false_iff, Bool.not_eq_false', decide_eq_true_eq, decide_eq_false_iff_not, eqNil] at hg; omega) | (simp only [List.length_append, List.length_map, List.length_range, List.length_replicate, List.length_take, List.length_drop, List.length_cons, List.length_nil, List.length_set, List.length_reverse]; omega))
    refine aOps_store (by rfl) (by rfl) (hs' _ _ (bufH_at hok' (AHeap.set_same _ _ _))) sz38 (bufV_live _ _) (by rw [bufV_cells]; rfl) (by simp) (Nat.zero_le _) (by rw [bufV_cells]; simp [allScal, bufV_scal]) ?_
    rw [bufV_cells]
    simp only [setAt, List.set_cons_succ, List.set_cons_zero]
    simp (decide := true) only [aOps_nil, putD, Slots.keep, if_true, if_false]
    repeat (with_reducible refine And.intro ?_ ?_; · first | trivial | omega | (intro hg; simp only [Bool.and_eq_true, Bool.or_eq_true, Bool.not_eq_true', Bool.and_eq_false_iff, Bool.or_eq_false_iff, Bool.not_eq_false', decide_eq_true_eq, decide_eq_false_iff_not, eqNil] at hg; omega) | (simp only [List.length_append, List.length_map, List.length_range, List.length_replicate, List.length_take, List.length_drop, List.length_cons, List.length_nil, List.length_set, List.length_reverse]; omega))
    change Awp _ _ _ _ _ _ _
    -- region 4  law.go:54
    refine awp_r [1, 2, 4, 5, 6] (by rfl) ?_
    simp (decide := true) only [aOps_nil, ev, absV, absS, putD, Slots.put, Slots.get, Slots.keep, if_true, if_false, true_and, ↓ap_move, pop_move, ↓ap_binOp, pop_binOp, isNilC_int, cond_false, pBinX_int, pI_add, ↓ap_assign, pop_assign]
    try simp (disch := omega) only [wrap_i64]
    repeat (with_reducible refine And.intro ?_ ?_; · first | trivial | omega | (intro hg; simp only [Bool.and_eq_true, Bool.or_eq_true, Bool.not_eq_true', Bool.and_eq_false_iff, Bool.or_eq_false_iff, Bool.not_eq_false', decide_eq_true_eq, decide_eq_false_iff_not, eqNil] at hg; omega) | (simp only [List.length_append, List.length_map, List.length_range, List.length_replicate, List.length_take, List.length_drop, List.length_cons, List.length_nil, List.length_set, List.length_reverse]; omega))
    try simp only [thenA_normal]
    refine ⟨(i + 1, b'), ?_, (bufS_store hok' hs').1, ⟨by simp only; omega, (bufS_store hok' hs').2, ?_⟩, by simp only; omega⟩
    · rfl
    · simp only
      rw [hc', hc, ← intCells_append, List.replicate_succ']
  · try simp only [decide_eq_false_iff_not] at hb1
    have hi' : i = (S - d.scale).toNat := by omega
    rw [hi'] at hc
    refine awp_exit ?_
    change Awp _ _ _ _ _ _ _
    refine awp_seq ?_
    -- region 6  law.go:57
    refine awp_rseq [2, 4, 5, 7] (by rfl) fun K hK => ?_
    simp (decide := true) only [aOps_nil, ev, absV, absS, putD, Slots.put, Slots.get, Slots.keep, if_true, if_false, true_and, ↓ap_fieldAddr, pop_fieldAddr, fa27_1, ↓ap_loadL, apL_mk, pLoad_one ag9, ↓ap_len, pop_len, pLen_str Tryz.underlying9, ↓ap_binOp, pop_binOp, isNilC_int, cond_false, pBinX_int, pI_sub, ↓ap_assign, pop_assign, List.getD_cons_zero, List.getD_cons_succ, Nat.zero_add, lv_str, bufS_rd2 w₀ hok e0 ne_1q3_0q0.symm]
    try simp (disch := omega) only [wrap_i64]
    repeat (with_reducible refine And.intro ?_ ?_; · first | trivial | omega | (intro hg; simp only [Bool.and_eq_true, Bool.or_eq_true, Bool.not_eq_true', Bool.and_eq_false_iff, Bool.or_eq_false_iff, Bool.not_eq_false', decide_eq_true_eq, decide_eq_false_iff_not, eqNil] at hg; omega) | (simp only [List.length_append, List.length_map, List.length_range, List.length_replicate, List.length_take, List.length_drop, List.length_cons, List.length_nil, List.length_set, List.length_reverse]; omega))
    apply hK; clear hK K
    refine awp_block ?_
    refine awp_loopG [2, 4, 5, 7] (fun g : Nat × Option Buf => [(2, .ptr (.own k0q0) 0), (4, .ptr (.own k0q1) 0), (5, .ptr (.own k1q3) 0), (7, .int .i64 ((g.1 : Int) - 1))]) (fun g : Nat × Option Buf => bufS ((h.set k0q0 ⟨[.bool d.neg, .str d.dig, .int .i64 d.scale], 0⟩).set k0q1 ⟨[.bool false, .nilSlice], 0⟩) k1q3 d.neg g.2) (fun g : Nat × Option Buf => g.1 ≤ d.dig.length ∧ bufOk (((h.set k0q0 ⟨[.bool d.neg, .str d.dig, .int .i64 d.scale], 0⟩).set k0q1 ⟨[.bool false, .nilSlice], 0⟩).set k1q3 ⟨[.bool d.neg, bufV 1 g.2], 0⟩) 1 g.2 ∧ bufC g.2 = intCells (List.replicate (S - d.scale).toNat 0 ++ digs (d.dig.drop g.1))) (fun g : Nat × Option Buf => g.1) (d.dig.length, b) (by rfl) (Sub.refl _) ⟨Nat.le_refl _, hok, by simp only; rw [hc, List.drop_length]; simp [digs]⟩ ?_
    clear hc hok hlb
    rintro ⟨q, b⟩ ⟨hq, hok, hc⟩
    simp only at hq hok hc ⊢
    have hlb : (bufC b).length ≤ 2000 := by rw [hc, intCells_length, List.length_append, List.length_replicate, digs_length, List.length_drop]; omega
    refine awp_seq ?_
    -- region 7  law.go:57
    refine awp_rseq [2, 4, 5, 7, 29] (by rfl) fun K hK => ?_
    simp (decide := true) only [aOps_nil, ev, absV, absS, putD, Slots.put, Slots.get, Slots.keep, if_true, if_false, true_and, ↓ap_move, pop_move, ↓ap_binOp, pop_binOp, isNilC_int, cond_false, pBinX_int, pI_geq]
    repeat (with_reducible refine And.intro ?_ ?_; · first | trivial | omega | (intro hg; simp only [Bool.and_eq_true, Bool.or_eq_true, Bool.not_eq_true', Bool.and_eq_false_iff, Bool.or_eq_false_iff, Bool.not_eq_false', decide_eq_true_eq, decide_eq_false_iff_not, eqNil] at hg; omega) | (simp only [List.length_append, List.length_map, List.length_range, List.length_replicate, List.length_take, List.length_drop, List.length_cons, List.length_nil, List.length_set, List.length_reverse]; omega))
    apply hK; clear hK K
    refine awp_cond (b := _) rfl (fun hb2 => ?_) (fun hb2 => ?_)
    · try simp only [decide_eq_true_eq] at hb2
      obtain ⟨q, rfl⟩ : ∃ r, q = r + 1 := ⟨q - 1, by omega⟩
      have hq' : ((q + 1 : Nat) : Int) - 1 = q := by omega
      rw [hq']
      have hbd := (dg_iff _).1 (List.all_eq_true.1 dd _ (getD_mem' (s := d.dig) (q := q) (by omega)))
      have edv : (dv (d.dig.getD q 0) : Int) = (d.dig.getD q 0).toNat - 48 := by
        have : dv (d.dig.getD q 0) = (d.dig.getD q 0).toNat - 48 := rfl
        omega
      have ew8 : IntKind.u8.wrap ((d.dig.getD q 0).toNat - 48) = (dv (d.dig.getD q 0) : Int) := by rw [wrap_u8 (by omega) (by omega), edv]
      have ew : IntKind.i64.wrap (dv (d.dig.getD q 0) : Int) = dv (d.dig.getD q 0) := wrap_i64 (by omega) (by omega)
      refine awp_skip ?_
      change Awp _ _ _ _ _ _ _
      refine awp_seq ?_
      refine awp_block ?_
      -- region 9  law.go:58
      refine awp_draw_F 9 [] mixed (by kernel_rfl) (by rfl) ?_
      simp only [List.take_succ_cons, List.take_zero, List.drop_succ_cons, List.drop_zero]
      simp (decide := true) only [ev, absV, absS, putD, Slots.put, Slots.get, if_true, if_false, true_and, ↓fp_fieldAddr, pop_fieldAddr, fa40_1, ↓fp_load, pop_load, pLoad_one ag38, fa27_1, pLoad_one ag9, ↓fp_move, pop_move, ↓fp_index, pop_index, pIndex_str Tryz.underlying9, ↓fp_binOp, pop_binOp, isNilC_int, cond_false, pBinX_int, pI_sub, ↓fp_convert _ _ _ (es_int Tryz.underlying5 Tryz.underlying3), pop_convert, pConv_int Tryz.underlying5 Tryz.underlying3, List.getD_cons_zero, List.getD_cons_succ, Nat.zero_add, lv_str, bufS_rd2 w₀ hok e0 ne_1q3_0q0.symm, bufS_rd w₀ hok, bufV_live, Int.toNat_natCast, ew8, ew]
      try simp (disch := omega) only [wrap_i64, wrap_u8]
      repeat (with_reducible refine And.intro ?_ ?_; · first | trivial | omega | (intro hg; simp only [Bool.and_eq_true, Bool.or_eq_true, Bool.not_eq_true', Bool.and_eq_false_iff, Bool.or_eq_false_iff, Bool.not_eq_false', decide_eq_true_eq, decide_eq_false_iff_not, eqNil] at hg; omega) | (simp only [List.length_append, List.length_map, List.length_range, List.length_replicate, List.length_take, List.length_drop, List.length_cons, List.length_nil, List.length_set, List.length_reverse]; omega))
      refine fOps_lay (by rfl) ?_
      refine aOps_buildSlice (cs := intCells [(dv (d.dig.getD q 0) : Int)]) (by kernel_rfl) fun k9q8 hk9q8 => ?_
      rw [aOps_nil]
      repeat (with_reducible refine And.intro ?_ ?_; · first | trivial | omega | (intro hg; simp only [Bool.and_eq_true, Bool.or_eq_true, Bool.not_eq_true', Bool.and_eq_false_iff, Bool.or_eq_false_iff, Bool.not_eq_false', decide_eq_true_eq, decide_eq_false_iff_not, eqNil] at hg; omega) | (simp only [List.length_append, List.length_map, List.length_range, List.length_replicate, List.length_take, List.length_drop, List.length_cons, List.length_nil, List.length_set, List.length_reverse]; omega))
      try simp only [fOps_nil]
      refine aOps_appendBuf (h₀ := ((h.set k0q0 ⟨[.bool d.neg, .str d.dig, .int .i64 d.scale], 0⟩).set k0q1 ⟨[.bool false, .nilSlice], 0⟩).set k1q3 ⟨[.bool d.neg, bufV 1 b], 0⟩) (b := b) (src := intCells [(dv (d.dig.getD q 0) : Int)]) (by rfl) (by rfl) Tryz.underlying38 Tryz.underlying38 (by intro k e; cases e) sz3 by3 ze3 (by rfl) (by decide) (by rfl) hok (Sub.set hk9q8) (by rfl) (by rfl) (src_one w₀ _ _ _).1 (src_one w₀ _ _ _).2 (by rfl) (by rfl) (by rfl) (by omega) (by omega) fun b' h' hok' hc' hs' => ?_
      simp (decide := true) only [ev, putD, Slots.put, Slots.get, if_true, if_false, true_and, ↓ap_fieldAddr, pop_fieldAddr, fa40_1, Nat.zero_add]
      repeat (with_reducible refine And.intro ?_ ?_; · first | trivial | omega | (intro hg; simp only [Bool.and_eq_true, Bool.or_eq_true, Bool.not_eq_true', Bool.and_eq_false_iff, Bool.or_eq_false_iff, Bool.not_eq_false', decide_eq_true_eq, decide_eq_false_iff_not, eqNil] at hg; omega) | (simp only [List.length_append, List.length_map, List.length_range, List.length_replicate, List.length_take, List.length_drop, List.length_cons, List.length_nil, List.length_set, List.length_reverse]; omega))
      refine aOps_store (by rfl) (by rfl) (hs' _ _ (bufH_at hok' (AHeap.set_same _ _ _))) sz38 (bufV_live _ _) (by rw [bufV_cells]; rfl) (by simp) (Nat.zero_le _) (by rw [bufV_cells]; simp [allScal, bufV_scal]) ?_
      rw [bufV_cells]
      simp only [setAt, List.set_cons_succ, List.set_cons_zero]
      simp (decide := true) only [aOps_nil, putD]
      repeat (with_reducible refine And.intro ?_ ?_; · first | trivial | omega | (intro hg; simp only [Bool.and_eq_true, Bool.or_eq_true, Bool.not_eq_true', Bool.and_eq_false_iff, Bool.or_eq_false_iff, Bool.not_eq_false', decide_eq_true_eq, decide_eq_false_iff_not, eqNil] at hg; omega) | (simp only [List.length_append, List.length_map, List.length_range, List.length_replicate, List.length_take, List.length_drop, List.length_cons, List.length_nil, List.length_set, List.length_reverse]; omega))
      change Awp _ _ _ _ _ _ _
      -- region 8  law.go:57
      refine awp_r [2, 4, 5, 7] (by rfl) ?_
      simp (decide := true) only [aOps_nil, ev, absV, absS, putD, Slots.put, Slots.get, Slots.keep, if_true, if_false, true_and, ↓ap_move, pop_move, ↓ap_binOp, pop_binOp, isNilC_int, cond_false, pBinX_int, pI_sub, ↓ap_assign, pop_assign]
      try simp (disch := omega) only [wrap_i64]
      repeat (with_reducible refine And.intro ?_ ?_; · first | trivial | omega | (intro hg; simp only [Bool.and_eq_true, Bool.or_eq_true, Bool.not_eq_true', Bool.and_eq_false_iff, Bool.or_eq_false_iff, Bool.not_eq_false', decide_eq_true_eq, decide_eq_false_iff_not, eqNil] at hg; omega) | (simp only [List.length_append, List.length_map, List.length_range, List.length_replicate, List.length_take, List.length_drop, List.length_cons, List.length_nil, List.length_set, List.length_reverse]; omega))
      try simp only [thenA_normal]
      refine ⟨(q, b'), ?_, (bufS_store hok' hs').1, ⟨by simp only; omega, (bufS_store hok' hs').2, ?_⟩, by simp only; omega⟩
      · rfl
      · simp only
        rw [hc', hc, ← intCells_append, digs_drop (q := q) (by omega), List.append_assoc]
    · try simp only [decide_eq_false_iff_not] at hb2
      have hq0 : q = 0 := by omega
      rw [hq0, List.drop_zero] at hc
      refine awp_exit ?_
      change Awp _ _ _ _ _ _ _
      -- region 10  law.go:60
      refine awp_rseq [4] (by rfl) fun K hK => ?_
      simp (decide := true) only [ev, putD, Slots.put, Slots.get, if_true, if_false, true_and, ↓ap_loadL, apL_mk, pLoad_agg ag40 sz40, cellsAt, List.getD_cons_zero, List.getD_cons_succ, Nat.zero_add, lv_bool, allLive, Bool.and_true, bufS_rd w₀ hok, bufV_live]
      repeat (with_reducible refine And.intro ?_ ?_; · first | trivial | omega | (intro hg; simp only [Bool.and_eq_true, Bool.or_eq_true, Bool.not_eq_true', Bool.and_eq_false_iff, Bool.or_eq_false_iff, Bool.not_eq_false', decide_eq_true_eq, decide_eq_false_iff_not, eqNil] at hg; omega) | (simp only [List.length_append, List.length_map, List.length_range, List.length_replicate, List.length_take, List.length_drop, List.length_cons, List.length_nil, List.length_set, List.length_reverse]; omega))
      refine aOps_store (v := .agg [.bool d.neg, bufV 1 b]) (by rfl) (by rfl) (bufH_at hok ((AHeap.set_ne _ _ ne_1q3_0q1.symm).trans (AHeap.set_same _ _ _))) sz40 (by rfl) (by rfl) (Nat.le_refl _) (Nat.zero_le _) (by cases b <;> rfl) ?_
      simp only [setAt, AVal.cells, List.length_nil, List.set_cons_zero, List.set_cons_succ, Nat.zero_add]
      simp (decide := true) only [aOps_nil, putD, Slots.keep, if_true, if_false]
      repeat (with_reducible refine And.intro ?_ ?_; · first | trivial | omega | (intro hg; simp only [Bool.and_eq_true, Bool.or_eq_true, Bool.not_eq_true', Bool.and_eq_false_iff, Bool.or_eq_false_iff, Bool.not_eq_false', decide_eq_true_eq, decide_eq_false_iff_not, eqNil] at hg; omega) | (simp only [List.length_append, List.length_map, List.length_range, List.length_replicate, List.length_take, List.length_drop, List.length_cons, List.length_nil, List.length_set, List.length_reverse]; omega))
      apply hK; clear hK K
      refine awp_ret ?_
      try simp only [thenA_ret, inBlockA_ret]
      refine retA_retE (?_) ?_
      · simp (decide := true) only [resPre, resV_cell, Slots.get, if_true, and_true, resV_cell, pLoad_agg ag40 sz40, rd_set, cellsAt, List.getD_cons_zero, List.getD_cons_succ, Nat.zero_add, lv_bool, allLive, Bool.and_true, cellsAt, List.getD_cons_zero, List.getD_cons_succ, Nat.zero_add, lv_bool, allLive, Bool.and_true, bufV_live]
      
      simp (decide := true) only [Slots.get, if_true, resOfG_one, resV_cell, pLoad_agg ag40 sz40, rd_set, cellsAt, List.getD_cons_zero, List.getD_cons_succ, Nat.zero_add, lv_bool, allLive, Bool.and_true, cellsAt, List.getD_cons_zero, List.getD_cons_succ, Nat.zero_add, lv_bool, allLive, Bool.and_true, bufV_live]
      obtain ⟨q1, q2⟩ := bufS_done (h := h) (X := ⟨[.bool d.neg, bufV 1 b], 0⟩) hok ((AHeap.set_ne _ _ ne_1q3_0q1.symm).trans (AHeap.set_same _ _ _)) hc (by repeat (first | exact Sub.refl _ | refine Sub.trans_set ?_ (by assumption)))
      exact ⟨_, Sub.refl _, ⟨_, rfl, q1⟩, q2⟩
end Go.Proofs.YthiiakghjoeikaaGreatDoor

/-
  The statements' big numbers: settled.
  Conditions: none.
-/
namespace Go.Proofs.YthiiakghjoeikaaGreatDoor
open Go.AM
open Go.Proofs
open Go.Dec
open Go.Lib (decDigits)
set_option maxRecDepth 100000

theorem leV_take (zs : List Int) (i : Nat) : leV (zs.take (i + 1)) = leV (zs.take i) + zs.getD i 0 * 10 ^ i := by
  by_cases hi : i < zs.length
  · have e : zs.take (i + 1) = zs.take i ++ [zs.getD i 0] := by
      rw [List.take_add_one, List.getElem?_eq_getElem hi, List.getD, List.getElem?_eq_getElem hi]
      rfl
    rw [e, leV_snoc, List.length_take, Nat.min_eq_left (by omega)]
    omega
  · rw [List.take_of_length_le (by omega), List.take_of_length_le (by omega), List.getD, List.getElem?_eq_none (by omega)]
    simp
/-- What stands in the rows: no number is great. -/
def smallZ (B : Int) (zs : List Int) : Prop := ∀ i : Nat, -B ≤ zs.getD i 0 ∧ zs.getD i 0 ≤ B
theorem settle_step {zs o : List Int} {c c' m n0 : Int} (h : leV (zs.take o.length) = leV o + c * 10 ^ o.length) (e0 : n0 = zs.getD o.length 0 + c) (e : n0 = 10 * c' + m) : leV (zs.take (o.length + 1)) = leV (o ++ [m]) + c' * 10 ^ (o.length + 1) := by
  rw [leV_take, h, leV_snoc, Int.pow_succ]
  have e1 : zs.getD o.length 0 = 10 * c' + m - c := by omega
  rw [e1, Int.sub_mul, Int.add_mul]
  have : 10 * c' * 10 ^ o.length = c' * (10 ^ o.length * 10) := by rw [Int.mul_comm 10 c', Int.mul_assoc, Int.mul_comm 10]
  omega
theorem settle_end {zs o : List Int} {c : Int} (ho : digZ o) (h : leV zs = leV o + c * 10 ^ o.length) (h0 : 0 ≤ leV zs) (hc : ¬ 0 < c) : c = 0 := by
  obtain ⟨b1, b2⟩ := leV_bound o ho
  by_cases e : c = 0
  · exact e
  · have hp : (0 : Int) < 10 ^ o.length := Int.pow_pos (by omega)
    have : c * 10 ^ o.length ≤ (-1) * 10 ^ o.length := Int.mul_le_mul_of_nonneg_right (by omega) (by omega)
    omega
theorem settle_more {zs o : List Int} {c : Int} {L : Nat} (ho : digZ o) (h : leV zs = leV o + c * 10 ^ o.length) (hL : leV zs < 10 ^ L) (hc : 0 < c) : o.length < L := by
  obtain ⟨b1, b2⟩ := leV_bound o ho
  have hp : (0 : Int) < 10 ^ o.length := Int.pow_pos (by omega)
  have h1 : 1 * 10 ^ o.length ≤ c * 10 ^ o.length := Int.mul_le_mul_of_nonneg_right (by omega) (by omega)
  by_cases e : o.length < L
  · exact e
  · have h2 : (10 : Nat) ^ L ≤ 10 ^ o.length := Nat.pow_le_pow_right (by omega) (by omega)
    have : (10 : Int) ^ L ≤ 10 ^ o.length := by exact_mod_cast h2
    omega
theorem digZ.snoc {o : List Int} (h : digZ o) {m : Int} (h0 : 0 ≤ m) (h1 : m ≤ 9) : digZ (o ++ [m]) := by
  intro x hx
  rw [List.mem_append, List.mem_singleton] at hx
  rcases hx with hx | rfl
  · exact h x hx
  · exact ⟨h0, h1⟩

set_option maxHeartbeats 2000000 in
theorem c_settled (w₀ : World) (h : AHeap) (neg : Bool) (z : AVal) (zs : List Int) (hz : HoldsZ h z zs) (B : Int) (hB0 : 20 ≤ B) (hB : B ≤ 1000000000) (hs : smallZ B zs) (L : Nat) (hL : zs.length ≤ L) (hL1 : L ≤ 100000) (hv : leV zs < 10 ^ L) (h0 : 0 ≤ leV zs) :
    ACall Tryz.prog w₀ 49 [.agg [.bool neg, z]] h (fun v h' => (∃ z' o, v = .agg [.bool neg, z'] ∧ HoldsZ h' z' o ∧ digZ o ∧ leV o = leV zs ∧ o.length ≤ L) ∧ Sub h h') := by
  have hlz := hz.live
  refine acall_intro (n := 44) (rs := [.cell 2 40]) Tryz.func49 rfl rfl rfl rfl (Nat.le_of_ble_eq_true rfl) ?_
  simp only [initSlots]
  -- region 0  law.go:82
  refine awp_rseq [1, 2] (by rfl) fun K hK => ?_
  refine aOps_box (by rfl) (by rfl) (by rfl) fun k0q0 hk0q0 => ?_
  try have hf_0q0 : h k0q0 = none := by first | assumption | (simp only [AHeap.set_none] at hk0q0; simp only [hk0q0])
  skip
  refine aOps_alloc ze40 (cs := [.bool false, .nilSlice]) (by rfl) fun k0q1 hk0q1 => ?_
  have ne_0q1_0q0 : k0q1 ≠ k0q0 := by simp only [AHeap.set_none] at hk0q1; simp only [hk0q1, ne_eq, not_false_eq_true]
  try have hf_0q1 : h k0q1 = none := by first | assumption | (simp only [AHeap.set_none] at hk0q1; simp only [hk0q1])
  simp (decide := true) only [aOps_nil, ev, putD, Slots.put, Slots.get, Slots.keep, if_true, if_false, AVal.cells]
  repeat (with_reducible refine And.intro ?_ ?_; · first | trivial | omega | (intro hg; simp only [Bool.and_eq_true, Bool.or_eq_true, Bool.not_eq_true', Bool.and_eq_false_iff, Bool.or_eq_false_iff, Bool.not_eq_false', decide_eq_true_eq, decide_eq_false_iff_not, eqNil] at hg; omega) | (simp only [List.length_append, List.length_map, List.length_range, List.length_replicate, List.length_take, List.length_drop, List.length_cons, List.length_nil, List.length_set, List.length_reverse]; omega))
  apply hK; clear hK K
  -- region 1  law.go:83
  refine awp_rseq [1, 2, 3] (by rfl) fun K hK => ?_
  simp (decide := true) only [ev, absV, absS, putD, Slots.put, Slots.get, if_true, if_false, true_and, ↓ap_fieldAddr, pop_fieldAddr, fa40_0, ↓ap_loadL, apL_mk, pLoad_one ag4, ↓ap_build, ↓pop_buildL, bld40_0, evP, List.map_cons, List.map_nil, rd_ne', ne_eq, not_false_eq_true, ne_0q1_0q0.symm, rd_any, List.getD_cons_zero, Nat.zero_add, lv_bool]
  repeat (with_reducible refine And.intro ?_ ?_; · first | trivial | omega | (intro hg; simp only [Bool.and_eq_true, Bool.or_eq_true, Bool.not_eq_true', Bool.and_eq_false_iff, Bool.or_eq_false_iff, Bool.not_eq_false', decide_eq_true_eq, decide_eq_false_iff_not, eqNil] at hg; omega) | (simp only [List.length_append, List.length_map, List.length_range, List.length_replicate, List.length_take, List.length_drop, List.length_cons, List.length_nil, List.length_set, List.length_reverse]; omega))
  refine aOps_alloc ze40 (cs := [.bool false, .nilSlice]) (by rfl) fun k1q3 hk1q3 => ?_
  have ne_1q3_0q0 : k1q3 ≠ k0q0 := by simp only [AHeap.set_none] at hk1q3; simp only [hk1q3, ne_eq, not_false_eq_true]
  have ne_1q3_0q1 : k1q3 ≠ k0q1 := by simp only [AHeap.set_none] at hk1q3; simp only [hk1q3, ne_eq, not_false_eq_true]
  try have hf_1q3 : h k1q3 = none := by first | assumption | (simp only [AHeap.set_none] at hk1q3; simp only [hk1q3])
  have e0 : ((h.set k0q0 ⟨[.bool neg, z], 0⟩).set k0q1 ⟨[.bool false, .nilSlice], 0⟩) k0q0 = some ⟨[.bool neg, z], 0⟩ := by rw [AHeap.set_ne _ _ ne_0q1_0q0.symm, AHeap.set_same]
  refine aOps_store (by rfl) (by rfl) (by repeat (first | exact AHeap.set_same _ _ _ | assumption | refine (AHeap.set_ne _ _ (by first | assumption | exact Ne.symm (by assumption))).trans ?_)) sz40 (by rfl) (by rfl) (by first | exact Nat.le_refl _ | decide | (simp; done) | (simp; omega)) (Nat.zero_le _) (by rfl) ?_
  simp only [AHeap.set_set, AVal.cells]
  simp (decide := true) only [aOps_nil, ev, putD, Slots.put, Slots.get, Slots.keep, if_true, if_false, setAt, List.set_cons_zero, List.set_cons_succ, Nat.zero_add]
  repeat (with_reducible refine And.intro ?_ ?_; · first | trivial | omega | (intro hg; simp only [Bool.and_eq_true, Bool.or_eq_true, Bool.not_eq_true', Bool.and_eq_false_iff, Bool.or_eq_false_iff, Bool.not_eq_false', decide_eq_true_eq, decide_eq_false_iff_not, eqNil] at hg; omega) | (simp only [List.length_append, List.length_map, List.length_range, List.length_replicate, List.length_take, List.length_drop, List.length_cons, List.length_nil, List.length_set, List.length_reverse]; omega))
  apply hK; clear hK K
  -- region 2  law.go:84
  refine awp_rseq [1, 2, 3, 4] (by rfl) fun K hK => ?_
  simp (decide := true) only [aOps_nil, ev, absV, absS, putD, Slots.put, Slots.keep, if_true, if_false, true_and, ↓ap_assign, pop_assign]
  repeat (with_reducible refine And.intro ?_ ?_; · first | trivial | omega | (intro hg; simp only [Bool.and_eq_true, Bool.or_eq_true, Bool.not_eq_true', Bool.and_eq_false_iff, Bool.or_eq_false_iff, Bool.not_eq_false', decide_eq_true_eq, decide_eq_false_iff_not, eqNil] at hg; omega) | (simp only [List.length_append, List.length_map, List.length_range, List.length_replicate, List.length_take, List.length_drop, List.length_cons, List.length_nil, List.length_set, List.length_reverse]; omega))
  apply hK; clear hK K
  refine awp_seq ?_
  -- region 3  law.go:85
  refine awp_rseq [1, 2, 3, 4, 5] (by rfl) fun K hK => ?_
  simp (decide := true) only [aOps_nil, ev, absV, absS, putD, Slots.put, Slots.keep, if_true, if_false, true_and, ↓ap_assign, pop_assign]
  repeat (with_reducible refine And.intro ?_ ?_; · first | trivial | omega | (intro hg; simp only [Bool.and_eq_true, Bool.or_eq_true, Bool.not_eq_true', Bool.and_eq_false_iff, Bool.or_eq_false_iff, Bool.not_eq_false', decide_eq_true_eq, decide_eq_false_iff_not, eqNil] at hg; omega) | (simp only [List.length_append, List.length_map, List.length_range, List.length_replicate, List.length_take, List.length_drop, List.length_cons, List.length_nil, List.length_set, List.length_reverse]; omega))
  apply hK; clear hK K
  refine awp_block ?_
  refine awp_loopG [1, 2, 3, 4, 5] (fun g : Int × List Int × Option Buf => [(1, .ptr (.own k0q0) 0), (2, .ptr (.own k0q1) 0), (3, .ptr (.own k1q3) 0), (4, .int .i64 g.1), (5, .int .i64 g.2.1.length)]) (fun g : Int × List Int × Option Buf => bufS ((h.set k0q0 ⟨[.bool neg, z], 0⟩).set k0q1 ⟨[.bool false, .nilSlice], 0⟩) k1q3 neg g.2.2) (fun g : Int × List Int × Option Buf => (-B ≤ g.1 ∧ g.1 ≤ B) ∧ digZ g.2.1 ∧ g.2.1.length ≤ L ∧ leV (zs.take g.2.1.length) = leV g.2.1 + g.1 * 10 ^ g.2.1.length ∧ bufOk (((h.set k0q0 ⟨[.bool neg, z], 0⟩).set k0q1 ⟨[.bool false, .nilSlice], 0⟩).set k1q3 ⟨[.bool neg, bufV 1 g.2.2], 0⟩) 1 g.2.2 ∧ bufC g.2.2 = intCells g.2.1) (fun g : Int × List Int × Option Buf => (zs.length - g.2.1.length) * (2 * B + 2).toNat + (g.1 + B).toNat) (0, [], none) (by rfl) (Sub.refl _) ⟨⟨by simp only; omega, by simp only; omega⟩, by simp [digZ], by simp, by simp, trivial, rfl⟩ ?_
  rintro ⟨c, o, b⟩ ⟨hcb, ho, hol, hv', hok, hc⟩
  simp only at hcb ho hol hv' hok hc ⊢
  have hlb : (bufC b).length ≤ 100000 := by rw [hc, intCells_length]; omega
  have hmz : HoldsZ (bufS ((h.set k0q0 ⟨[.bool neg, z], 0⟩).set k0q1 ⟨[.bool false, .nilSlice], 0⟩) k1q3 neg b) z zs := hz.sub (bufS_sub hok (by repeat (first | exact Sub.refl _ | refine Sub.trans_set ?_ (by assumption))))
  refine awp_seq ?_
  -- region 4  law.go:85
  refine awp_rseq [1, 2, 3, 4, 5, 18] (by rfl) fun K hK => ?_
  simp (decide := true) only [aOps_nil, ev, absV, absS, putD, Slots.put, Slots.get, Slots.keep, if_true, if_false, true_and, ↓ap_move, pop_move, ↓ap_fieldAddr, pop_fieldAddr, fa40_1, ↓ap_loadL, apL_mk, pLoad_one ag38, ↓ap_len, pop_len, ↓ap_binOp, pop_binOp, isNilC_tmp, cond_false, pBinX_int, pI_lss, ↓ag_move, agP, agQ_some, nthDst, gKnown_bool, guardB_bool_false, implies_true, ↓ag_binOp, isNilC_int, cv_binl, cp_binl, pI_gtr, ↓ap_pick, pop_pick, pPick_bool, pickV_cond_r, pickV_or, List.getD_cons_zero, List.getD_cons_succ, Nat.zero_add, hlz, hz.len Tryz.underlying38, bufS_rd2 w₀ hok e0 ne_1q3_0q0.symm]
  repeat (with_reducible refine And.intro ?_ ?_; · first | trivial | omega | (intro hg; simp only [Bool.and_eq_true, Bool.or_eq_true, Bool.not_eq_true', Bool.and_eq_false_iff, Bool.or_eq_false_iff, Bool.not_eq_false', decide_eq_true_eq, decide_eq_false_iff_not, eqNil] at hg; omega) | (simp only [List.length_append, List.length_map, List.length_range, List.length_replicate, List.length_take, List.length_drop, List.length_cons, List.length_nil, List.length_set, List.length_reverse]; omega))
  apply hK; clear hK K
  refine awp_cond (b := _) rfl (fun hb1 => ?_) (fun hb1 => ?_)
  · try simp only [decide_eq_true_eq, Bool.or_eq_true] at hb1
    have hoL : o.length < L := by
      by_cases e : o.length < zs.length
      · omega
      · rw [List.take_of_length_le (by omega)] at hv'
        exact settle_more ho hv' hv (by omega)
    have hsm := hs o.length
    refine awp_skip ?_
    change Awp _ _ _ _ _ _ _
    refine awp_seq ?_
    refine awp_block ?_
    -- region 6  law.go:86
    refine awp_rseq [1, 2, 3, 5, 6] (by rfl) fun K hK => ?_
    simp (decide := true) only [ev, putD, Slots.put, Slots.get, if_true, if_false, true_and, ↓ap_loadL, apL_mk, pLoad_agg ag40 sz40, ↓ap_move, pop_move, cellsAt, List.getD_cons_zero, List.getD_cons_succ, Nat.zero_add, lv_bool, allLive, Bool.and_true, hlz, bufS_rd2 w₀ hok e0 ne_1q3_0q0.symm]
    repeat (with_reducible refine And.intro ?_ ?_; · first | trivial | omega | (intro hg; simp only [Bool.and_eq_true, Bool.or_eq_true, Bool.not_eq_true', Bool.and_eq_false_iff, Bool.or_eq_false_iff, Bool.not_eq_false', decide_eq_true_eq, decide_eq_false_iff_not, eqNil] at hg; omega) | (simp only [List.length_append, List.length_map, List.length_range, List.length_replicate, List.length_take, List.length_drop, List.length_cons, List.length_nil, List.length_set, List.length_reverse]; omega))
    refine aOps_callV (V := .int .i64 (zs.getD o.length 0)) (by rfl) (by rfl) (c_digit w₀ _ neg z zs hmz (by omega) o.length (by omega)) ?_
    simp (decide := true) only [aOps_nil, ev, putD, Slots.put, Slots.get, Slots.keep, if_true, if_false, true_and, ↓ap_move, pop_move, ↓ap_binOp, pop_binOp, isNilC_tmp, cond_false, pBinX_int, pI_add, ↓ap_assign, pop_assign]
    try simp (disch := omega) only [wrap_i64]
    repeat (with_reducible refine And.intro ?_ ?_; · first | trivial | omega | (intro hg; simp only [Bool.and_eq_true, Bool.or_eq_true, Bool.not_eq_true', Bool.and_eq_false_iff, Bool.or_eq_false_iff, Bool.not_eq_false', decide_eq_true_eq, decide_eq_false_iff_not, eqNil] at hg; omega) | (simp only [List.length_append, List.length_map, List.length_range, List.length_replicate, List.length_take, List.length_drop, List.length_cons, List.length_nil, List.length_set, List.length_reverse]; omega))
    apply hK; clear hK K
    -- region 7  law.go:87
    refine awp_rseq [1, 2, 3, 4, 5, 6] (by rfl) fun K hK => ?_
    simp (decide := true) only [aOps_nil, ev, absV, absS, putD, Slots.put, Slots.keep, if_true, if_false, true_and, ↓ap_assign, pop_assign]
    repeat (with_reducible refine And.intro ?_ ?_; · first | trivial | omega | (intro hg; simp only [Bool.and_eq_true, Bool.or_eq_true, Bool.not_eq_true', Bool.and_eq_false_iff, Bool.or_eq_false_iff, Bool.not_eq_false', decide_eq_true_eq, decide_eq_false_iff_not, eqNil] at hg; omega) | (simp only [List.length_append, List.length_map, List.length_range, List.length_replicate, List.length_take, List.length_drop, List.length_cons, List.length_nil, List.length_set, List.length_reverse]; omega))
    apply hK; clear hK K
    refine awp_seq ?_
    refine awp_block ?_
    refine awp_loopG [1, 2, 3, 4, 5, 6] (fun g : Int × Int => [(1, .ptr (.own k0q0) 0), (2, .ptr (.own k0q1) 0), (3, .ptr (.own k1q3) 0), (4, .int .i64 g.1), (5, .int .i64 o.length), (6, .int .i64 g.2)]) (fun g : Int × Int => bufS ((h.set k0q0 ⟨[.bool neg, z], 0⟩).set k0q1 ⟨[.bool false, .nilSlice], 0⟩) k1q3 neg b) (fun g : Int × Int => zs.getD o.length 0 + c = 10 * g.1 + g.2 ∧ -(2 * B) ≤ g.2 ∧ g.2 ≤ 2 * B ∧ -(2 * B) ≤ g.1 ∧ g.1 ≤ 0 ∧ (g.1 < 0 → g.2 ≤ 9)) (fun g : Int × Int => (0 - g.2).toNat) (0, zs.getD o.length 0 + c) (by rfl) (Sub.refl _) ⟨by simp, by simp only; omega, by simp only; omega, by simp only; omega, by simp, by simp⟩ ?_
    rintro ⟨c2, n⟩ ⟨e2, n1, n2, c1, c0, c9⟩
    simp only at e2 n1 n2 c1 c0 c9 ⊢
    refine awp_seq ?_
    -- region 8  law.go:88
    refine awp_rseq [1, 2, 3, 4, 5, 6, 27] (by rfl) fun K hK => ?_
    simp (decide := true) only [aOps_nil, ev, absV, absS, putD, Slots.put, Slots.get, Slots.keep, if_true, if_false, true_and, ↓ap_move, pop_move, ↓ap_binOp, pop_binOp, isNilC_int, cond_false, pBinX_int, pI_lss]
    repeat (with_reducible refine And.intro ?_ ?_; · first | trivial | omega | (intro hg; simp only [Bool.and_eq_true, Bool.or_eq_true, Bool.not_eq_true', Bool.and_eq_false_iff, Bool.or_eq_false_iff, Bool.not_eq_false', decide_eq_true_eq, decide_eq_false_iff_not, eqNil] at hg; omega) | (simp only [List.length_append, List.length_map, List.length_range, List.length_replicate, List.length_take, List.length_drop, List.length_cons, List.length_nil, List.length_set, List.length_reverse]; omega))
    apply hK; clear hK K
    refine awp_cond (b := _) rfl (fun hb2 => ?_) (fun hb2 => ?_)
    · try simp only [decide_eq_true_eq] at hb2
      refine awp_skip ?_
      change Awp _ _ _ _ _ _ _
      refine awp_block ?_
      -- region 9  law.go:89
      refine awp_rseq [1, 2, 3, 4, 5, 6] (by rfl) fun K hK => ?_
      simp (decide := true) only [aOps_nil, ev, absV, absS, putD, Slots.put, Slots.get, Slots.keep, if_true, if_false, true_and, ↓ap_move, pop_move, ↓ap_binOp, pop_binOp, isNilC_int, cond_false, pBinX_int, pI_add, ↓ap_assign, pop_assign]
      try simp (disch := omega) only [wrap_i64]
      repeat (with_reducible refine And.intro ?_ ?_; · first | trivial | omega | (intro hg; simp only [Bool.and_eq_true, Bool.or_eq_true, Bool.not_eq_true', Bool.and_eq_false_iff, Bool.or_eq_false_iff, Bool.not_eq_false', decide_eq_true_eq, decide_eq_false_iff_not, eqNil] at hg; omega) | (simp only [List.length_append, List.length_map, List.length_range, List.length_replicate, List.length_take, List.length_drop, List.length_cons, List.length_nil, List.length_set, List.length_reverse]; omega))
      apply hK; clear hK K
      -- region 10  law.go:90
      refine awp_r [1, 2, 3, 4, 5, 6] (by rfl) ?_
      simp (decide := true) only [aOps_nil, ev, absV, absS, putD, Slots.put, Slots.get, Slots.keep, if_true, if_false, true_and, ↓ap_move, pop_move, ↓ap_binOp, pop_binOp, isNilC_int, cond_false, pBinX_int, pI_sub, ↓ap_assign, pop_assign]
      try simp (disch := omega) only [wrap_i64]
      repeat (with_reducible refine And.intro ?_ ?_; · first | trivial | omega | (intro hg; simp only [Bool.and_eq_true, Bool.or_eq_true, Bool.not_eq_true', Bool.and_eq_false_iff, Bool.or_eq_false_iff, Bool.not_eq_false', decide_eq_true_eq, decide_eq_false_iff_not, eqNil] at hg; omega) | (simp only [List.length_append, List.length_map, List.length_range, List.length_replicate, List.length_take, List.length_drop, List.length_cons, List.length_nil, List.length_set, List.length_reverse]; omega))
      try simp only [thenA_normal, inBlockA_normal]
      refine ⟨(c2 - 1, n + 10), rfl, Sub.refl _, ⟨by simp only; omega, by simp only; omega, by simp only; omega, by simp only; omega, by simp only; omega, by simp only; omega⟩, by simp only; omega⟩
    · try simp only [decide_eq_false_iff_not] at hb2
      refine awp_exit ?_
      change Awp _ _ _ _ _ _ _
      -- region 11  law.go:92
      refine awp_rseq [1, 2, 3, 4, 5, 6] (by rfl) fun K hK => ?_
      simp (decide := true) only [aOps_nil, ev, absV, absS, putD, Slots.put, Slots.get, Slots.keep, if_true, if_false, true_and, ↓ap_move, pop_move, ↓ap_binOp, pop_binOp, isNilC_int, cond_false, pBinX_int, pI_quo, isNilC_tmp, pI_add, ↓ap_assign, pop_assign]
      try simp (disch := omega) only [Int.tdiv_eq_ediv_of_nonneg, wrap_i64]
      repeat (with_reducible refine And.intro ?_ ?_; · first | trivial | omega | (intro hg; simp only [Bool.and_eq_true, Bool.or_eq_true, Bool.not_eq_true', Bool.and_eq_false_iff, Bool.or_eq_false_iff, Bool.not_eq_false', decide_eq_true_eq, decide_eq_false_iff_not, eqNil] at hg; omega) | (simp only [List.length_append, List.length_map, List.length_range, List.length_replicate, List.length_take, List.length_drop, List.length_cons, List.length_nil, List.length_set, List.length_reverse]; omega))
      apply hK; clear hK K
      -- region 12  law.go:93
      refine awp_r [1, 2, 3, 4, 5] (by rfl) ?_
      simp (decide := true) only [ev, absV, absS, putD, Slots.put, Slots.get, if_true, if_false, true_and, ↓ap_fieldAddr, pop_fieldAddr, fa40_1, ↓ap_loadL, apL_mk, pLoad_one ag38, ↓ap_move, pop_move, ↓ap_binOp, pop_binOp, isNilC_int, cond_false, pBinX_int, pI_rem, List.getD_cons_zero, List.getD_cons_succ, Nat.zero_add, bufS_rd w₀ hok, bufV_live]
      try simp (disch := omega) only [Int.tmod_eq_emod_of_nonneg]
      repeat (with_reducible refine And.intro ?_ ?_; · first | trivial | omega | (intro hg; simp only [Bool.and_eq_true, Bool.or_eq_true, Bool.not_eq_true', Bool.and_eq_false_iff, Bool.or_eq_false_iff, Bool.not_eq_false', decide_eq_true_eq, decide_eq_false_iff_not, eqNil] at hg; omega) | (simp only [List.length_append, List.length_map, List.length_range, List.length_replicate, List.length_take, List.length_drop, List.length_cons, List.length_nil, List.length_set, List.length_reverse]; omega))
      refine aOps_buildSlice (cs := intCells [n % 10]) (by kernel_rfl) fun k12q4 hk12q4 => ?_
      refine aOps_appendBuf (h₀ := ((h.set k0q0 ⟨[.bool neg, z], 0⟩).set k0q1 ⟨[.bool false, .nilSlice], 0⟩).set k1q3 ⟨[.bool neg, bufV 1 b], 0⟩) (b := b) (src := intCells [n % 10]) (by rfl) (by rfl) Tryz.underlying38 Tryz.underlying38 (by intro k e; cases e) sz3 by3 ze3 (by rfl) (by decide) (by rfl) hok (Sub.set hk12q4) (by rfl) (by rfl) (src_one w₀ _ _ _).1 (src_one w₀ _ _ _).2 (by rfl) (by rfl) (by rfl) (by omega) (by omega) fun b' h' hok' hc' hs' => ?_
      simp (decide := true) only [ev, putD, Slots.put, Slots.get, if_true, if_false, true_and, ↓ap_fieldAddr, pop_fieldAddr, fa40_1, Nat.zero_add]
      repeat (with_reducible refine And.intro ?_ ?_; · first | trivial | omega | (intro hg; simp only [Bool.and_eq_true, Bool.or_eq_true, Bool.not_eq_true', Bool.and_eq_false_iff, Bool.or_eq_false_iff, Bool.not_eq_false', decide_eq_true_eq, decide_eq_false_iff_not, eqNil] at hg; omega) | (simp only [List.length_append, List.length_map, List.length_range, List.length_replicate, List.length_take, List.length_drop, List.length_cons, List.length_nil, List.length_set, List.length_reverse]; omega))
      refine aOps_store (by rfl) (by rfl) (hs' _ _ (bufH_at hok' (AHeap.set_same _ _ _))) sz38 (bufV_live _ _) (by rw [bufV_cells]; rfl) (by simp) (Nat.zero_le _) (by rw [bufV_cells]; simp [allScal, bufV_scal]) ?_
      rw [bufV_cells]
      simp only [setAt, List.set_cons_succ, List.set_cons_zero]
      simp (decide := true) only [aOps_nil, putD, Slots.keep, if_true, if_false]
      repeat (with_reducible refine And.intro ?_ ?_; · first | trivial | omega | (intro hg; simp only [Bool.and_eq_true, Bool.or_eq_true, Bool.not_eq_true', Bool.and_eq_false_iff, Bool.or_eq_false_iff, Bool.not_eq_false', decide_eq_true_eq, decide_eq_false_iff_not, eqNil] at hg; omega) | (simp only [List.length_append, List.length_map, List.length_range, List.length_replicate, List.length_take, List.length_drop, List.length_cons, List.length_nil, List.length_set, List.length_reverse]; omega))
      change Awp _ _ _ _ _ _ _
      -- region 5  law.go:85
      refine awp_r [1, 2, 3, 4, 5] (by rfl) ?_
      simp (decide := true) only [aOps_nil, ev, absV, absS, putD, Slots.put, Slots.get, Slots.keep, if_true, if_false, true_and, ↓ap_move, pop_move, ↓ap_binOp, pop_binOp, isNilC_int, cond_false, pBinX_int, pI_add, ↓ap_assign, pop_assign]
      try simp (disch := omega) only [wrap_i64]
      repeat (with_reducible refine And.intro ?_ ?_; · first | trivial | omega | (intro hg; simp only [Bool.and_eq_true, Bool.or_eq_true, Bool.not_eq_true', Bool.and_eq_false_iff, Bool.or_eq_false_iff, Bool.not_eq_false', decide_eq_true_eq, decide_eq_false_iff_not, eqNil] at hg; omega) | (simp only [List.length_append, List.length_map, List.length_range, List.length_replicate, List.length_take, List.length_drop, List.length_cons, List.length_nil, List.length_set, List.length_reverse]; omega))
      try simp only [thenA_normal]
      refine ⟨(c2 + n / 10, o ++ [n % 10], b'), ?_, (bufS_store hok' hs').1, ⟨⟨by simp only; omega, by simp only; omega⟩, ho.snoc (by omega) (by omega), by simp only [List.length_append, List.length_singleton]; omega, ?_, (bufS_store hok' hs').2, ?_⟩, ?_⟩
      · simp only [List.length_append, List.length_singleton]
        rfl
      · simp only [List.length_append, List.length_singleton]
        exact settle_step hv' rfl (by omega)
      · simp only
        rw [hc', hc, ← intCells_append]
      · simp only [List.length_append, List.length_singleton]
        by_cases e : o.length < zs.length
        · obtain ⟨r, hr⟩ : ∃ r, zs.length - o.length = r + 1 := ⟨zs.length - o.length - 1, by omega⟩
          rw [show zs.length - (o.length + 1) = r by omega, hr, Nat.add_mul, Nat.one_mul]
          generalize r * (2 * B + 2).toNat = q
          omega
        · have hz0 : zs.getD o.length 0 = 0 := by rw [List.getD, List.getElem?_eq_none (by omega)]; rfl
          rw [show zs.length - (o.length + 1) = 0 by omega, show zs.length - o.length = 0 by omega, Nat.zero_mul]
          omega
  · try simp only [decide_eq_false_iff_not, Bool.or_eq_false_iff] at hb1
    rw [List.take_of_length_le (by omega)] at hv'
    have hc0 := settle_end ho hv' h0 (by omega)
    rw [hc0, Int.zero_mul, Int.add_zero] at hv'
    refine awp_exit ?_
    change Awp _ _ _ _ _ _ _
    -- region 13  law.go:95
    refine awp_rseq [2] (by rfl) fun K hK => ?_
    simp (decide := true) only [ev, putD, Slots.put, Slots.get, if_true, if_false, true_and, ↓ap_loadL, apL_mk, pLoad_agg ag40 sz40, cellsAt, List.getD_cons_zero, List.getD_cons_succ, Nat.zero_add, lv_bool, allLive, Bool.and_true, bufS_rd w₀ hok, bufV_live]
    repeat (with_reducible refine And.intro ?_ ?_; · first | trivial | omega | (intro hg; simp only [Bool.and_eq_true, Bool.or_eq_true, Bool.not_eq_true', Bool.and_eq_false_iff, Bool.or_eq_false_iff, Bool.not_eq_false', decide_eq_true_eq, decide_eq_false_iff_not, eqNil] at hg; omega) | (simp only [List.length_append, List.length_map, List.length_range, List.length_replicate, List.length_take, List.length_drop, List.length_cons, List.length_nil, List.length_set, List.length_reverse]; omega))
    refine aOps_store (v := .agg [.bool neg, bufV 1 b]) (by rfl) (by rfl) (bufH_at hok ((AHeap.set_ne _ _ ne_1q3_0q1.symm).trans (AHeap.set_same _ _ _))) sz40 (by rfl) (by rfl) (Nat.le_refl _) (Nat.zero_le _) (by cases b <;> rfl) ?_
    simp only [setAt, AVal.cells, List.length_nil, List.set_cons_zero, List.set_cons_succ, Nat.zero_add]
    simp (decide := true) only [aOps_nil, putD, Slots.keep, if_true, if_false]
    repeat (with_reducible refine And.intro ?_ ?_; · first | trivial | omega | (intro hg; simp only [Bool.and_eq_true, Bool.or_eq_true, Bool.not_eq_true', Bool.and_eq_false_iff, Bool.or_eq_false_iff, Bool.not_eq_false', decide_eq_true_eq, decide_eq_false_iff_not, eqNil] at hg; omega) | (simp only [List.length_append, List.length_map, List.length_range, List.length_replicate, List.length_take, List.length_drop, List.length_cons, List.length_nil, List.length_set, List.length_reverse]; omega))
    apply hK; clear hK K
    refine awp_ret ?_
    try simp only [thenA_ret, inBlockA_ret]
    refine retA_retE (?_) ?_
    · simp (decide := true) only [resPre, resV_cell, Slots.get, if_true, and_true, resV_cell, pLoad_agg ag40 sz40, rd_set, cellsAt, List.getD_cons_zero, List.getD_cons_succ, Nat.zero_add, lv_bool, allLive, Bool.and_true, cellsAt, List.getD_cons_zero, List.getD_cons_succ, Nat.zero_add, lv_bool, allLive, Bool.and_true, bufV_live]
    
    simp (decide := true) only [Slots.get, if_true, resOfG_one, resV_cell, pLoad_agg ag40 sz40, rd_set, cellsAt, List.getD_cons_zero, List.getD_cons_succ, Nat.zero_add, lv_bool, allLive, Bool.and_true, cellsAt, List.getD_cons_zero, List.getD_cons_succ, Nat.zero_add, lv_bool, allLive, Bool.and_true, bufV_live]
    obtain ⟨q1, q2⟩ := bufS_done (h := h) (X := ⟨[.bool neg, bufV 1 b], 0⟩) hok ((AHeap.set_ne _ _ ne_1q3_0q1.symm).trans (AHeap.set_same _ _ _)) hc (by repeat (first | exact Sub.refl _ | refine Sub.trans_set ?_ (by assumption)))
    exact ⟨_, Sub.refl _, ⟨_, o, rfl, q1, ho, hv'.symm, hol⟩, q2⟩
end Go.Proofs.YthiiakghjoeikaaGreatDoor

