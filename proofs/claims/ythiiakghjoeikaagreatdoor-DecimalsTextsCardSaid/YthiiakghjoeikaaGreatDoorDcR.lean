/-
  The statements' Text.
  Conditions: none.
-/
import Derived.Test.YthiiakghjoeikaaGreatDoorDcL
set_option linter.unusedSimpArgs false
set_option linter.unnecessarySimpa false
set_option linter.unusedVariables false
namespace Go.Proofs.YthiiakghjoeikaaGreatDoor
open Go.AM
open Go.Proofs
open Go.Dec
open Go.Lib (decDigits)
set_option maxRecDepth 100000

theorem c_Text12 (w₀ : World) (h : AHeap) (d : D) (hv : checkE d = 0) :
    ACall Tryz.prog w₀ 17 [decA d] h (fun v h' => v = .str (textE d) ∧ h' = h) := by
  obtain ⟨sd, dd, nd, _⟩ := Small_of_check hv
  have ha1 := sd.l
  have ha2 := sd.s0
  have ha3 := sd.s1
  obtain ⟨s, hs⟩ : ∃ s, s = padL d.dig (d.scale + 1) := ⟨_, rfl⟩
  have hsl : (s.length : Int) ≤ 200 ∧ d.scale < s.length := by rw [hs, padL]; simp; omega
  refine acall_intro (n := 37) (rs := [.tmp 2]) Tryz.func17 rfl rfl rfl rfl (Nat.le_of_ble_eq_true rfl) ?_
  simp only [initSlots]
  -- region 0  law.go:236
  refine awp_rseq [1] (by rfl) fun K hK => ?_
  refine aOps_box (by rfl) (by rfl) (by rfl) fun k0q0 hk0q0 => ?_
  try have hf_0q0 : h k0q0 = none := by first | assumption | (simp only [AHeap.set_none] at hk0q0; simp only [hk0q0])
  skip
  simp (decide := true) only [aOps_nil, vOps_nil, fOps_nil, kOps_nil, ev, absV, absS, putD, Slots.put, Slots.get, Slots.keep, if_true, if_false, List.contains_cons, List.contains_nil, true_and, and_true, ↓ap_assign, pop_assign, rd_ne', ne_eq, not_false_eq_true, rd_any, AVal.cells, setAt, List.set_cons_zero, List.set_cons_succ, cellsAt, List.getD_cons_zero, List.getD_cons_succ, Nat.zero_add, Nat.reduceAdd, lv_bool, lv_int, lv_str, lv_nilPtr, lv_ptr, lv_nilSlice, lv_slice, lv_nilFunc, lv_func, lv_nilIface, lv_iface, lv_nilMap, lv_agg, lv_tuple, allLive, Bool.and_true, decA]
  repeat (with_reducible refine And.intro ?_ ?_; · first | trivial | omega | (intro hg; simp only [Bool.and_eq_true, Bool.or_eq_true, Bool.not_eq_true', Bool.and_eq_false_iff, Bool.or_eq_false_iff, Bool.not_eq_false', decide_eq_true_eq, decide_eq_false_iff_not, eqNil] at hg; omega) | (simp only [List.length_append, List.length_map, List.length_range, List.length_replicate, List.length_take, List.length_drop, List.length_cons, List.length_nil, List.length_set, List.length_reverse]; omega))
  apply hK; clear hK K
  -- region 1  law.go:237
  refine awp_rseq [1, 3] (by rfl) fun K hK => ?_
  simp (decide := true) only [aOps_nil, vOps_nil, fOps_nil, kOps_nil, ev, absV, absS, putD, Slots.put, Slots.get, Slots.keep, if_true, if_false, List.contains_cons, List.contains_nil, true_and, and_true, ↓ap_fieldAddr, pop_fieldAddr, fa27_1, ↓ap_loadL, apL_mk, pLoad_one ag9, ↓ap_assign, pop_assign, rd_ne', ne_eq, not_false_eq_true, rd_any, AVal.cells, setAt, List.set_cons_zero, List.set_cons_succ, cellsAt, List.getD_cons_zero, List.getD_cons_succ, Nat.zero_add, Nat.reduceAdd, lv_bool, lv_int, lv_str, lv_nilPtr, lv_ptr, lv_nilSlice, lv_slice, lv_nilFunc, lv_func, lv_nilIface, lv_iface, lv_nilMap, lv_agg, lv_tuple, allLive, Bool.and_true, decA]
  repeat (with_reducible refine And.intro ?_ ?_; · first | trivial | omega | (intro hg; simp only [Bool.and_eq_true, Bool.or_eq_true, Bool.not_eq_true', Bool.and_eq_false_iff, Bool.or_eq_false_iff, Bool.not_eq_false', decide_eq_true_eq, decide_eq_false_iff_not, eqNil] at hg; omega) | (simp only [List.length_append, List.length_map, List.length_range, List.length_replicate, List.length_take, List.length_drop, List.length_cons, List.length_nil, List.length_set, List.length_reverse]; omega))
  apply hK; clear hK K
  refine awp_seq ?_
  refine awp_block ?_
  refine awp_loopG [1, 3] (fun k : Nat => [(1, .ptr (.own k0q0) 0), (3, .str (List.replicate k 48 ++ d.dig))]) (fun k : Nat => h.set k0q0 ⟨[.bool d.neg, .str d.dig, .int .i64 d.scale], 0⟩) (fun k : Nat => k ≤ (d.scale + 1 - d.dig.length).toNat) (fun k : Nat => 100 - k) 0 (by rfl) (Sub.refl _) (Nat.zero_le _) ?_
  intro k hk
  refine awp_seq ?_
  -- region 2  law.go:238
  refine awp_rseq [1, 3, 10] (by rfl) fun K hK => ?_
  simp (decide := true) only [aOps_nil, vOps_nil, fOps_nil, kOps_nil, ev, absV, absS, putD, Slots.put, Slots.get, Slots.keep, if_true, if_false, List.contains_cons, List.contains_nil, true_and, and_true, ↓ap_move, pop_move, ↓ap_len, pop_len, pLen_str Tryz.underlying9, ↓ap_fieldAddr, pop_fieldAddr, fa27_2, ↓ap_loadL, apL_mk, pLoad_one ag3, ↓ap_binOp, pop_binOp, isNilC_tmp, cond_false, pBinX_int, pI_leq, rd_ne', ne_eq, not_false_eq_true, rd_any, AVal.cells, setAt, List.set_cons_zero, List.set_cons_succ, cellsAt, List.getD_cons_zero, List.getD_cons_succ, Nat.zero_add, Nat.reduceAdd, lv_bool, lv_int, lv_str, lv_nilPtr, lv_ptr, lv_nilSlice, lv_slice, lv_nilFunc, lv_func, lv_nilIface, lv_iface, lv_nilMap, lv_agg, lv_tuple, allLive, Bool.and_true, decA]
  repeat (with_reducible refine And.intro ?_ ?_; · first | trivial | omega | (intro hg; simp only [Bool.and_eq_true, Bool.or_eq_true, Bool.not_eq_true', Bool.and_eq_false_iff, Bool.or_eq_false_iff, Bool.not_eq_false', decide_eq_true_eq, decide_eq_false_iff_not, eqNil] at hg; omega) | (simp only [List.length_append, List.length_map, List.length_range, List.length_replicate, List.length_take, List.length_drop, List.length_cons, List.length_nil, List.length_set, List.length_reverse]; omega))
  apply hK; clear hK K
  refine awp_cond (b := _) rfl (fun hb1 => ?_) (fun hb1 => ?_)
  · try simp only [decide_eq_true_eq, decide_eq_false_iff_not, Bool.not_eq_true', Bool.not_eq_false', Bool.and_eq_true, Bool.and_eq_false_iff, Bool.or_eq_true, Bool.or_eq_false_iff, Bool.true_eq, Bool.false_eq, reduceCtorEq] at hb1
    refine awp_skip ?_
    change Awp _ _ _ _ _ _ _
    refine awp_block ?_
    -- region 3  law.go:239
    refine awp_r [1, 3] (by rfl) ?_
    simp (decide := true) only [aOps_nil, vOps_nil, fOps_nil, kOps_nil, ev, absV, absS, putD, Slots.put, Slots.get, Slots.keep, if_true, if_false, List.contains_cons, List.contains_nil, true_and, and_true, ↓ap_move, pop_move, ↓ap_binOp, pop_binOp, isNilC_tmp, cond_false, pBinX_str, pS_add, ↓ap_assign, pop_assign, rd_ne', ne_eq, not_false_eq_true, rd_any, AVal.cells, setAt, List.set_cons_zero, List.set_cons_succ, cellsAt, List.getD_cons_zero, List.getD_cons_succ, Nat.zero_add, Nat.reduceAdd, lv_bool, lv_int, lv_str, lv_nilPtr, lv_ptr, lv_nilSlice, lv_slice, lv_nilFunc, lv_func, lv_nilIface, lv_iface, lv_nilMap, lv_agg, lv_tuple, allLive, Bool.and_true, decA]
    repeat (with_reducible refine And.intro ?_ ?_; · first | trivial | omega | (intro hg; simp only [Bool.and_eq_true, Bool.or_eq_true, Bool.not_eq_true', Bool.and_eq_false_iff, Bool.or_eq_false_iff, Bool.not_eq_false', decide_eq_true_eq, decide_eq_false_iff_not, eqNil] at hg; omega) | (simp only [List.length_append, List.length_map, List.length_range, List.length_replicate, List.length_take, List.length_drop, List.length_cons, List.length_nil, List.length_set, List.length_reverse]; omega))
    try simp only [thenA_normal, inBlockA_normal]
    refine ⟨k + 1, ?_, Sub.refl _, by simp at hb1; omega, by simp at hb1; omega⟩
    rw [List.replicate_succ]
    rfl
  · try simp only [decide_eq_true_eq, decide_eq_false_iff_not, Bool.not_eq_true', Bool.not_eq_false', Bool.and_eq_true, Bool.and_eq_false_iff, Bool.or_eq_true, Bool.or_eq_false_iff, Bool.true_eq, Bool.false_eq, reduceCtorEq] at hb1
    have hke : List.replicate k 48 ++ d.dig = s := by
      have : k = (d.scale + 1 - d.dig.length).toNat := by simp at hb1; omega
      rw [hs, padL, this]
    rw [hke]
    refine awp_exit ?_
    change Awp _ _ _ _ _ _ _
    refine awp_seq ?_
    -- region 4  law.go:241
    refine awp_rseq [1, 3, 15] (by rfl) fun K hK => ?_
    simp (decide := true) only [aOps_nil, vOps_nil, fOps_nil, kOps_nil, ev, absV, absS, putD, Slots.put, Slots.get, Slots.keep, if_true, if_false, List.contains_cons, List.contains_nil, true_and, and_true, ↓ap_fieldAddr, pop_fieldAddr, fa27_2, ↓ap_loadL, apL_mk, pLoad_one ag3, ↓ap_binOp, pop_binOp, isNilC_int, cond_false, pBinX_int, pI_gtr, rd_ne', ne_eq, not_false_eq_true, rd_any, AVal.cells, setAt, List.set_cons_zero, List.set_cons_succ, cellsAt, List.getD_cons_zero, List.getD_cons_succ, Nat.zero_add, Nat.reduceAdd, lv_bool, lv_int, lv_str, lv_nilPtr, lv_ptr, lv_nilSlice, lv_slice, lv_nilFunc, lv_func, lv_nilIface, lv_iface, lv_nilMap, lv_agg, lv_tuple, allLive, Bool.and_true, decA]
    repeat (with_reducible refine And.intro ?_ ?_; · first | trivial | omega | (intro hg; simp only [Bool.and_eq_true, Bool.or_eq_true, Bool.not_eq_true', Bool.and_eq_false_iff, Bool.or_eq_false_iff, Bool.not_eq_false', decide_eq_true_eq, decide_eq_false_iff_not, eqNil] at hg; omega) | (simp only [List.length_append, List.length_map, List.length_range, List.length_replicate, List.length_take, List.length_drop, List.length_cons, List.length_nil, List.length_set, List.length_reverse]; omega))
    apply hK; clear hK K
    refine awp_joinT [1, 3] (fun t : List UInt8 => [(1, .ptr (.own k0q0) 0), (3, .str t)]) (fun t : List UInt8 => h.set k0q0 ⟨[.bool d.neg, .str d.dig, .int .i64 d.scale], 0⟩) (fun t : List UInt8 => t = (if 0 < d.scale then s.take ((s.length : Int) - d.scale).toNat ++ [46] ++ s.drop ((s.length : Int) - d.scale).toNat else s)) ?_ ?_
    · refine awp_cond (b := _) rfl (fun hb2 => ?_) (fun hb2 => ?_)
      · try simp only [decide_eq_true_eq, decide_eq_false_iff_not, Bool.not_eq_true', Bool.not_eq_false', Bool.and_eq_true, Bool.and_eq_false_iff, Bool.or_eq_true, Bool.or_eq_false_iff, Bool.true_eq, Bool.false_eq, reduceCtorEq] at hb2
        -- region 5  law.go:242
        refine awp_draw_all mixed (by kernel_rfl) (by rfl) (by rfl) ?_
        simp (decide := true) only [aOps_nil, vOps_nil, fOps_nil, kOps_nil, ev, absV, absS, putD, Slots.put, Slots.get, Slots.keep, if_true, if_false, List.contains_cons, List.contains_nil, true_and, and_true, ↓ap_move, pop_move, ↓ap_len, pop_len, pLen_str Tryz.underlying9, ↓ap_fieldAddr, pop_fieldAddr, fa27_2, ↓ap_loadL, apL_mk, pLoad_one ag3, ↓ap_binOp, pop_binOp, isNilC_tmp, cond_false, pBinX_int, pI_sub, rd_ne', ne_eq, not_false_eq_true, rd_any, AVal.cells, setAt, List.set_cons_zero, List.set_cons_succ, cellsAt, List.getD_cons_zero, List.getD_cons_succ, Nat.zero_add, Nat.reduceAdd, lv_bool, lv_int, lv_str, lv_nilPtr, lv_ptr, lv_nilSlice, lv_slice, lv_nilFunc, lv_func, lv_nilIface, lv_iface, lv_nilMap, lv_agg, lv_tuple, allLive, Bool.and_true, decA]
        try simp (disch := omega) only [wrap_i64, wrap_u8]
        try simp (decide := true) only [aOps_nil, vOps_nil, fOps_nil, kOps_nil, ev, absV, absS, putD, Slots.put, Slots.get, Slots.keep, if_true, if_false, List.contains_cons, List.contains_nil, true_and, and_true, ↓ap_slice, pop_slice, evO, pSliceS_00 Tryz.underlying9, pSliceS_0i Tryz.underlying9, pSliceS_i0 Tryz.underlying9, pSliceS_ii Tryz.underlying9, pSliceS, bndA_none, bndA_int, ↓ap_binOp, pop_binOp, isNilC_str, cond_false, pBinX_str, pS_add, ↓ap_move, pop_move, ↓ap_len, pop_len, pLen_str Tryz.underlying9, ↓ap_fieldAddr, pop_fieldAddr, fa27_2, ↓ap_loadL, apL_mk, pLoad_one ag3, isNilC_tmp, pBinX_int, pI_sub, rd_ne', ne_eq, not_false_eq_true, rd_any, AVal.cells, setAt, List.set_cons_zero, List.set_cons_succ, cellsAt, List.getD_cons_zero, List.getD_cons_succ, Nat.zero_add, Nat.reduceAdd, lv_bool, lv_int, lv_str, lv_nilPtr, lv_ptr, lv_nilSlice, lv_slice, lv_nilFunc, lv_func, lv_nilIface, lv_iface, lv_nilMap, lv_agg, lv_tuple, allLive, Bool.and_true, decA]
        try simp (disch := omega) only [wrap_i64, wrap_u8]
        try simp (decide := true) only [aOps_nil, vOps_nil, fOps_nil, kOps_nil, ev, absV, absS, putD, Slots.put, Slots.get, Slots.keep, if_true, if_false, List.contains_cons, List.contains_nil, true_and, and_true, ↓ap_slice, pop_slice, evO, pSliceS_00 Tryz.underlying9, pSliceS_0i Tryz.underlying9, pSliceS_i0 Tryz.underlying9, pSliceS_ii Tryz.underlying9, pSliceS, bndA_none, bndA_int, ↓ap_binOp, pop_binOp, isNilC_tmp, cond_false, pBinX_str, pS_add, ↓ap_assign, pop_assign, rd_ne', ne_eq, not_false_eq_true, rd_any, AVal.cells, setAt, List.set_cons_zero, List.set_cons_succ, cellsAt, List.getD_cons_zero, List.getD_cons_succ, Nat.zero_add, Nat.reduceAdd, lv_bool, lv_int, lv_str, lv_nilPtr, lv_ptr, lv_nilSlice, lv_slice, lv_nilFunc, lv_func, lv_nilIface, lv_iface, lv_nilMap, lv_agg, lv_tuple, allLive, Bool.and_true, decA]
        repeat (with_reducible refine And.intro ?_ ?_; · first | trivial | omega | (intro hg; simp only [Bool.and_eq_true, Bool.or_eq_true, Bool.not_eq_true', Bool.and_eq_false_iff, Bool.or_eq_false_iff, Bool.not_eq_false', decide_eq_true_eq, decide_eq_false_iff_not, eqNil] at hg; omega) | (simp only [List.length_append, List.length_map, List.length_range, List.length_replicate, List.length_take, List.length_drop, List.length_cons, List.length_nil, List.length_set, List.length_reverse]; omega))
        try simp only [thenA_normal, inBlockA_normal]
        first
        | (refine ⟨_, rfl, Sub.refl _, ?_⟩
           rw [if_pos hb2]
           simp only [Int.toNat_natCast, Nat.sub_zero, List.drop_zero]
           rw [List.take_of_length_le (l := List.drop _ s) (by rw [List.length_drop]; omega)])
        | (refine ⟨_, rfl, Sub.refl _, ?_⟩
           rw [if_neg hb2])
      · try simp only [decide_eq_true_eq, decide_eq_false_iff_not, Bool.not_eq_true', Bool.not_eq_false', Bool.and_eq_true, Bool.and_eq_false_iff, Bool.or_eq_true, Bool.or_eq_false_iff, Bool.true_eq, Bool.false_eq, reduceCtorEq] at hb2
        refine awp_skip ?_
        try simp only [thenA_normal, inBlockA_normal]
        first
        | (refine ⟨_, rfl, Sub.refl _, ?_⟩
           rw [if_pos hb2]
           simp only [Int.toNat_natCast, Nat.sub_zero, List.drop_zero]
           rw [List.take_of_length_le (l := List.drop _ s) (by rw [List.length_drop]; omega)])
        | (refine ⟨_, rfl, Sub.refl _, ?_⟩
           rw [if_neg hb2])
    · rintro t ht
      have htl : t.length ≤ 500 := by
        rw [ht]
        split
        · simp only [List.length_append, List.length_take, List.length_drop, List.length_cons, List.length_nil]; omega
        · omega
      refine awp_seq ?_
      -- region 6  law.go:244
      refine awp_rseq [3, 33] (by rfl) fun K hK => ?_
      simp (decide := true) only [aOps_nil, vOps_nil, fOps_nil, kOps_nil, ev, absV, absS, putD, Slots.put, Slots.get, Slots.keep, if_true, if_false, List.contains_cons, List.contains_nil, true_and, and_true, ↓ap_fieldAddr, pop_fieldAddr, fa27_0, ↓ap_loadL, apL_mk, pLoad_one ag4, rd_ne', ne_eq, not_false_eq_true, rd_any, AVal.cells, setAt, List.set_cons_zero, List.set_cons_succ, cellsAt, List.getD_cons_zero, List.getD_cons_succ, Nat.zero_add, Nat.reduceAdd, lv_bool, lv_int, lv_str, lv_nilPtr, lv_ptr, lv_nilSlice, lv_slice, lv_nilFunc, lv_func, lv_nilIface, lv_iface, lv_nilMap, lv_agg, lv_tuple, allLive, Bool.and_true, decA]
      repeat (with_reducible refine And.intro ?_ ?_; · first | trivial | omega | (intro hg; simp only [Bool.and_eq_true, Bool.or_eq_true, Bool.not_eq_true', Bool.and_eq_false_iff, Bool.or_eq_false_iff, Bool.not_eq_false', decide_eq_true_eq, decide_eq_false_iff_not, eqNil] at hg; omega) | (simp only [List.length_append, List.length_map, List.length_range, List.length_replicate, List.length_take, List.length_drop, List.length_cons, List.length_nil, List.length_set, List.length_reverse]; omega))
      apply hK; clear hK K
      refine awp_cond (b := _) rfl (fun hb3 => ?_) (fun hb3 => ?_)
      · try simp only [decide_eq_true_eq, decide_eq_false_iff_not, Bool.not_eq_true', Bool.not_eq_false', Bool.and_eq_true, Bool.and_eq_false_iff, Bool.or_eq_true, Bool.or_eq_false_iff, Bool.true_eq, Bool.false_eq, reduceCtorEq] at hb3
        -- region 7  law.go:245
        refine awp_rseq [2] (by rfl) fun K hK => ?_
        simp (decide := true) only [aOps_nil, vOps_nil, fOps_nil, kOps_nil, ev, absV, absS, putD, Slots.put, Slots.get, Slots.keep, if_true, if_false, List.contains_cons, List.contains_nil, true_and, and_true, ↓ap_move, pop_move, ↓ap_binOp, pop_binOp, isNilC_tmp, cond_false, pBinX_str, pS_add, ↓ap_assign, pop_assign, rd_ne', ne_eq, not_false_eq_true, rd_any, AVal.cells, setAt, List.set_cons_zero, List.set_cons_succ, cellsAt, List.getD_cons_zero, List.getD_cons_succ, Nat.zero_add, Nat.reduceAdd, lv_bool, lv_int, lv_str, lv_nilPtr, lv_ptr, lv_nilSlice, lv_slice, lv_nilFunc, lv_func, lv_nilIface, lv_iface, lv_nilMap, lv_agg, lv_tuple, allLive, Bool.and_true, decA]
        repeat (with_reducible refine And.intro ?_ ?_; · first | trivial | omega | (intro hg; simp only [Bool.and_eq_true, Bool.or_eq_true, Bool.not_eq_true', Bool.and_eq_false_iff, Bool.or_eq_false_iff, Bool.not_eq_false', decide_eq_true_eq, decide_eq_false_iff_not, eqNil] at hg; omega) | (simp only [List.length_append, List.length_map, List.length_range, List.length_replicate, List.length_take, List.length_drop, List.length_cons, List.length_nil, List.length_set, List.length_reverse]; omega))
        apply hK; clear hK K
        refine awp_ret ?_
        try simp only [thenA_ret, inBlockA_ret]
        refine retA_ret h (by repeat (first | exact Sub.refl _ | refine Sub.trans_set ?_ (by assumption))) (resPre_tmp (resPre_nil)) ?_
        simp (decide := true) only [aOps_nil, vOps_nil, fOps_nil, kOps_nil, ev, absV, absS, putD, Slots.put, Slots.get, Slots.keep, if_true, if_false, List.contains_cons, List.contains_nil, true_and, and_true, resOf_one, rd_ne', ne_eq, not_false_eq_true, rd_any, AVal.cells, setAt, List.set_cons_zero, List.set_cons_succ, cellsAt, List.getD_cons_zero, List.getD_cons_succ, Nat.zero_add, Nat.reduceAdd, lv_bool, lv_int, lv_str, lv_nilPtr, lv_ptr, lv_nilSlice, lv_slice, lv_nilFunc, lv_func, lv_nilIface, lv_iface, lv_nilMap, lv_agg, lv_tuple, allLive, Bool.and_true, decA]
        rw [textE, if_neg (fun e => e hv)]
        simp only [← hs, ← ht]
        rw [if_pos hb3]
      · try simp only [decide_eq_true_eq, decide_eq_false_iff_not, Bool.not_eq_true', Bool.not_eq_false', Bool.and_eq_true, Bool.and_eq_false_iff, Bool.or_eq_true, Bool.or_eq_false_iff, Bool.true_eq, Bool.false_eq, reduceCtorEq] at hb3
        refine awp_skip ?_
        change Awp _ _ _ _ _ _ _
        -- region 8  law.go:247
        refine awp_rseq [2] (by rfl) fun K hK => ?_
        simp (decide := true) only [aOps_nil, vOps_nil, fOps_nil, kOps_nil, ev, absV, absS, putD, Slots.put, Slots.get, Slots.keep, if_true, if_false, List.contains_cons, List.contains_nil, true_and, and_true, ↓ap_move, pop_move, ↓ap_assign, pop_assign, rd_ne', ne_eq, not_false_eq_true, rd_any, AVal.cells, setAt, List.set_cons_zero, List.set_cons_succ, cellsAt, List.getD_cons_zero, List.getD_cons_succ, Nat.zero_add, Nat.reduceAdd, lv_bool, lv_int, lv_str, lv_nilPtr, lv_ptr, lv_nilSlice, lv_slice, lv_nilFunc, lv_func, lv_nilIface, lv_iface, lv_nilMap, lv_agg, lv_tuple, allLive, Bool.and_true, decA]
        repeat (with_reducible refine And.intro ?_ ?_; · first | trivial | omega | (intro hg; simp only [Bool.and_eq_true, Bool.or_eq_true, Bool.not_eq_true', Bool.and_eq_false_iff, Bool.or_eq_false_iff, Bool.not_eq_false', decide_eq_true_eq, decide_eq_false_iff_not, eqNil] at hg; omega) | (simp only [List.length_append, List.length_map, List.length_range, List.length_replicate, List.length_take, List.length_drop, List.length_cons, List.length_nil, List.length_set, List.length_reverse]; omega))
        apply hK; clear hK K
        refine awp_ret ?_
        try simp only [thenA_ret, inBlockA_ret]
        refine retA_ret h (by repeat (first | exact Sub.refl _ | refine Sub.trans_set ?_ (by assumption))) (resPre_tmp (resPre_nil)) ?_
        simp (decide := true) only [aOps_nil, vOps_nil, fOps_nil, kOps_nil, ev, absV, absS, putD, Slots.put, Slots.get, Slots.keep, if_true, if_false, List.contains_cons, List.contains_nil, true_and, and_true, resOf_one, rd_ne', ne_eq, not_false_eq_true, rd_any, AVal.cells, setAt, List.set_cons_zero, List.set_cons_succ, cellsAt, List.getD_cons_zero, List.getD_cons_succ, Nat.zero_add, Nat.reduceAdd, lv_bool, lv_int, lv_str, lv_nilPtr, lv_ptr, lv_nilSlice, lv_slice, lv_nilFunc, lv_func, lv_nilIface, lv_iface, lv_nilMap, lv_agg, lv_tuple, allLive, Bool.and_true, decA]
        rw [textE, if_neg (fun e => e hv)]
        simp only [← hs, ← ht]
        rw [if_neg (by rw [hb3]; decide)]
end Go.Proofs.YthiiakghjoeikaaGreatDoor
