/-
  The statement DecimalsNew, walked.
  Conditions: none.
-/
import Derived.Test.YthiiakghjoeikaaGreatDoorDcN
import Derived.Test.YthiiakghjoeikaaGreatDoorDcO
set_option linter.unusedSimpArgs false
set_option linter.unnecessarySimpa false
set_option linter.unusedVariables false
namespace Go.Proofs.YthiiakghjoeikaaGreatDoor
open Go.AM
open Go.Proofs
open Go.Dec
open Go.Lib (decDigits)
set_option maxRecDepth 100000

/-- What New asks of its arguments, the digits aside. -/
def goodB (s : List UInt8) (scale : Int) : Bool := ((!decide (s = []) && decide ((s.length : Int) ≤ 1000)) && decide (-1000 ≤ scale)) && decide (scale ≤ 1000)
theorem new_good {neg : Bool} {s : List UInt8} {scale : Int} (h : (goodB s scale && s.all dg) = true) : newE neg s scale = normE neg (natOf s) scale ∧ s.all dg = true ∧ s.length ≤ 1000 ∧ -1000 ≤ scale ∧ scale ≤ 1000 := by
  unfold goodB at h
  simp only [Bool.and_eq_true, Bool.not_eq_true', decide_eq_true_eq, decide_eq_false_iff_not] at h
  obtain ⟨⟨⟨⟨h1, h2⟩, h3⟩, h4⟩, h5⟩ := h
  refine ⟨?_, h5, by omega, h3, h4⟩
  rw [newE, if_pos ⟨by unfold numB; rw [h5, decide_eq_false h1]; rfl, by omega, h3, h4⟩]
theorem new_bad {neg : Bool} {s : List UInt8} {scale : Int} (h : (goodB s scale && s.all dg) = false) : newE neg s scale = (noD, 1) := by
  rw [newE, if_neg]
  rintro ⟨h1, h2, h3, h4⟩
  unfold numB at h1
  rw [Bool.and_eq_true] at h1
  unfold goodB at h
  rw [h1.1, h1.2, decide_eq_true (show (s.length : Int) ≤ 1000 by omega), decide_eq_true h3, decide_eq_true h4] at h
  cases h
theorem res_ok {neg : Bool} {n k : Nat} {c d : D} {e : Int} (hc : c = canon neg n k) (h : (d, e) = resE c) : d.dig.length ≤ 9223372036854775807 ∧ (e = 0 → checkE d = 0) := by
  unfold resE at h
  split at h
  · obtain ⟨rfl, rfl⟩ := Prod.mk.inj h
    exact ⟨by decide, fun e => absurd e (by decide)⟩
  · rename_i hl
    obtain ⟨rfl, rfl⟩ := Prod.mk.inj h
    have hck : checkE d = 0 := by rw [hc]; exact check_canon _ _ _ (by rw [← hc]; omega)
    exact ⟨by have := (Small_of_check hck).1.l; omega, fun _ => hck⟩
theorem dg_two (b : UInt8) : (decide (48 ≤ (b.toNat : Int)) && decide ((b.toNat : Int) ≤ 57)) = dg b := by
  unfold dg
  rw [Bool.eq_iff_iff]
  simp only [Bool.and_eq_true, decide_eq_true_eq]
  omega
set_option maxHeartbeats 1000000 in
theorem l_DecimalsNew (w₀ : World) (ht : Tab10 w₀) (he : Errs w₀) (h : AHeap) (neg : Bool) (s : List UInt8) (hl : s.length ≤ 9223372036854775807) (scale : Int) (h0 : -9223372036854775808 ≤ scale) (h1 : scale ≤ 9223372036854775807) :
    ACall Tryz.prog w₀ 8 [.bool neg, .str s, .int .i64 scale] h (fun x _ => x = .bool true) := by
  refine ACall.mono (R := fun x h' => x = .bool true ∧ h' = h) ?_ fun x h' hx => hx.1
  refine acall_intro (n := 99) (rs := [.tmp 6]) Tryz.func8 rfl rfl rfl rfl (Nat.le_of_ble_eq_true rfl) ?_
  simp only [initSlots]
  -- region 0  law.go:174
  refine awp_rseq [0, 1, 2] (by rfl) fun K hK => ?_
  simp (decide := true) only [aOps_nil, ev, absV, absS, putD, Slots.put, Slots.keep, if_true, if_false, true_and, ↓ap_assign, pop_assign, Nat.zero_add, Nat.reduceAdd]
  repeat (with_reducible refine And.intro ?_ ?_; · first | trivial | omega | (intro hg; simp only [Bool.and_eq_true, Bool.or_eq_true, Bool.not_eq_true', Bool.and_eq_false_iff, Bool.or_eq_false_iff, Bool.not_eq_false', decide_eq_true_eq, decide_eq_false_iff_not, eqNil] at hg; omega) | (simp only [List.length_append, List.length_map, List.length_range, List.length_replicate, List.length_take, List.length_drop, List.length_cons, List.length_nil, List.length_set, List.length_reverse]; omega))
  apply hK; clear hK K
  refine awp_seq ?_
  -- region 1  law.go:175
  refine awp_rseq [0, 1, 2, 16] (by rfl) fun K hK => ?_
  simp (decide := true) only [aOps_nil, ev, absV, absS, putD, Slots.put, Slots.get, Slots.keep, if_true, if_false, true_and, ↓ap_move, pop_move, ↓ap_len, pop_len, pLen_str Tryz.underlying9, ↓ap_binOp, pop_binOp, isNilC_int, cond_false, pBinX_int, pI_gtr]
  repeat (with_reducible refine And.intro ?_ ?_; · first | trivial | omega | (intro hg; simp only [Bool.and_eq_true, Bool.or_eq_true, Bool.not_eq_true', Bool.and_eq_false_iff, Bool.or_eq_false_iff, Bool.not_eq_false', decide_eq_true_eq, decide_eq_false_iff_not, eqNil] at hg; omega) | (simp only [List.length_append, List.length_map, List.length_range, List.length_replicate, List.length_take, List.length_drop, List.length_cons, List.length_nil, List.length_set, List.length_reverse]; omega))
  apply hK; clear hK K
  refine awp_cond (b := _) rfl (fun hb1 => ?_) (fun hb1 => ?_)
  · try simp only [decide_eq_true_eq] at hb1
    -- region 2  law.go:176
    refine awp_rseq [6] (by rfl) fun K hK => ?_
    refine aOps_callV (V := .bool true) (by rfl) (by rfl) (c_lives12 w₀ ht he _) ?_
    simp (decide := true) only [aOps_nil, ev, putD, Slots.put, Slots.get, Slots.keep, if_true, if_false, true_and, ↓ap_assign, pop_assign]
    repeat (with_reducible refine And.intro ?_ ?_; · first | trivial | omega | (intro hg; simp only [Bool.and_eq_true, Bool.or_eq_true, Bool.not_eq_true', Bool.and_eq_false_iff, Bool.or_eq_false_iff, Bool.not_eq_false', decide_eq_true_eq, decide_eq_false_iff_not, eqNil] at hg; omega) | (simp only [List.length_append, List.length_map, List.length_range, List.length_replicate, List.length_take, List.length_drop, List.length_cons, List.length_nil, List.length_set, List.length_reverse]; omega))
    apply hK; clear hK K
    refine awp_ret ?_
    try simp only [thenA_ret]
    refine retA_ret h (by repeat (first | exact Sub.refl _ | refine Sub.trans_set ?_ (by assumption))) (resPre_tmp (resPre_nil)) ?_
    simp (decide := true) only [Slots.get, if_true, and_true, resOf_one]
    all_goals first | rfl | exact ⟨rfl, rfl⟩ | (simp (decide := true) only [if_true, if_false, *]; done) | (trace_state; fail)
  · try simp only [decide_eq_false_iff_not] at hb1
    refine awp_skip ?_
    change Awp _ _ _ _ _ _ _
    -- region 3  law.go:178
    refine awp_rseq [0, 1, 2, 7] (by rfl) fun K hK => ?_
    simp (decide := true) only [aOps_nil, ev, absV, absS, putD, Slots.put, Slots.get, Slots.keep, if_true, if_false, true_and, ↓ap_move, pop_move, ↓ap_binOp, pop_binOp, isNilC_str, cond_false, pBinX_str, pS_neq, ↓ag_move, agP, agQ_some, nthDst, gKnown_bool, guardB_bool_true, implies_true, ↓ag_len, pop_len, pLen_str Tryz.underlying9, cv_len, cp_len, ↓ag_binOp, isNilC_int, cv_binl, cp_binl, pBinX_int, pI_leq, ↓ap_pick, pop_pick, pPick_bool, pickV_cond_l, pickV_and, pI_geq, ↓ap_assign, pop_assign]
    repeat (with_reducible refine And.intro ?_ ?_; · first | trivial | omega | (intro hg; simp only [Bool.and_eq_true, Bool.or_eq_true, Bool.not_eq_true', Bool.and_eq_false_iff, Bool.or_eq_false_iff, Bool.not_eq_false', decide_eq_true_eq, decide_eq_false_iff_not, eqNil] at hg; omega) | (simp only [List.length_append, List.length_map, List.length_range, List.length_replicate, List.length_take, List.length_drop, List.length_cons, List.length_nil, List.length_set, List.length_reverse]; omega))
    apply hK; clear hK K
    refine awp_seq ?_
    -- region 4  law.go:179
    refine awp_rseq [0, 1, 2, 7, 8] (by rfl) fun K hK => ?_
    simp (decide := true) only [aOps_nil, ev, absV, absS, putD, Slots.put, Slots.keep, if_true, if_false, true_and, ↓ap_assign, pop_assign]
    repeat (with_reducible refine And.intro ?_ ?_; · first | trivial | omega | (intro hg; simp only [Bool.and_eq_true, Bool.or_eq_true, Bool.not_eq_true', Bool.and_eq_false_iff, Bool.or_eq_false_iff, Bool.not_eq_false', decide_eq_true_eq, decide_eq_false_iff_not, eqNil] at hg; omega) | (simp only [List.length_append, List.length_map, List.length_range, List.length_replicate, List.length_take, List.length_drop, List.length_cons, List.length_nil, List.length_set, List.length_reverse]; omega))
    apply hK; clear hK K
    refine awp_block ?_
    refine awp_loopG [0, 1, 2, 7, 8] (fun i : Nat => [(0, .bool neg), (1, .str s), (2, .int .i64 scale), (7, .bool (goodB s scale && (s.take i).all dg)), (8, .int .i64 i)]) (fun i : Nat => h) (fun i : Nat => i ≤ s.length) (fun i : Nat => s.length - i) 0 (by rw [List.take_zero, List.all_nil, Bool.and_true]; rfl) (Sub.refl _) (Nat.zero_le _) ?_
    intro i hi
    refine awp_seq ?_
    -- region 5  law.go:179
    refine awp_rseq [0, 1, 2, 7, 8, 36] (by rfl) fun K hK => ?_
    simp (decide := true) only [aOps_nil, ev, putD, Slots.put, Slots.get, Slots.keep, if_true, if_false, true_and, ↓ap_move, pop_move, ↓ap_len, pop_len, pLen_str Tryz.underlying9, ↓ap_binOp, pop_binOp, isNilC_tmp, cond_false, pBinX_int, pI_lss]
    repeat (with_reducible refine And.intro ?_ ?_; · first | trivial | omega | (intro hg; simp only [Bool.and_eq_true, Bool.or_eq_true, Bool.not_eq_true', Bool.and_eq_false_iff, Bool.or_eq_false_iff, Bool.not_eq_false', decide_eq_true_eq, decide_eq_false_iff_not, eqNil] at hg; omega) | (simp only [List.length_append, List.length_map, List.length_range, List.length_replicate, List.length_take, List.length_drop, List.length_cons, List.length_nil, List.length_set, List.length_reverse]; omega))
    apply hK; clear hK K
    refine awp_cond (b := _) rfl (fun hb2 => ?_) (fun hb2 => ?_)
    · try simp only [decide_eq_true_eq] at hb2
      refine awp_skip ?_
      change Awp _ _ _ _ _ _ _
      refine awp_seq ?_
      refine awp_block ?_
      -- region 7  law.go:180
      refine awp_r [0, 1, 2, 7, 8] (by rfl) ?_
      simp (decide := true) only [aOps_nil, ev, absV, absS, putD, Slots.put, Slots.get, Slots.keep, if_true, if_false, true_and, ↓ap_move, pop_move, ↓ag_move, agP, agQ_some, nthDst, gKnown_bool, guardB_bool_true, implies_true, ↓ag_index, pop_index, pIndex_str Tryz.underlying9, cv_indexl, cv_indexr, cp_indexl, cp_indexr, ↓ag_binOp, pop_binOp, isNilC_int, cond_false, cv_binl, cp_binl, pBinX_int, pI_geq, ↓ap_pick, pop_pick, pPick_bool, pickV_cond_l, pickV_and, pI_leq, ↓ap_assign, pop_assign, Int.toNat_natCast]
      repeat (with_reducible refine And.intro ?_ ?_; · first | trivial | omega | (intro hg; simp only [Bool.and_eq_true, Bool.or_eq_true, Bool.not_eq_true', Bool.and_eq_false_iff, Bool.or_eq_false_iff, Bool.not_eq_false', decide_eq_true_eq, decide_eq_false_iff_not, eqNil] at hg; omega) | (simp only [List.length_append, List.length_map, List.length_range, List.length_replicate, List.length_take, List.length_drop, List.length_cons, List.length_nil, List.length_set, List.length_reverse]; omega))
      change Awp _ _ _ _ _ _ _
      -- region 6  law.go:179
      refine awp_r [0, 1, 2, 7, 8] (by rfl) ?_
      simp (decide := true) only [aOps_nil, ev, absV, absS, putD, Slots.put, Slots.get, Slots.keep, if_true, if_false, true_and, ↓ap_move, pop_move, ↓ap_binOp, pop_binOp, isNilC_int, cond_false, pBinX_int, pI_add, ↓ap_assign, pop_assign]
      try simp (disch := omega) only [wrap_i64]
      repeat (with_reducible refine And.intro ?_ ?_; · first | trivial | omega | (intro hg; simp only [Bool.and_eq_true, Bool.or_eq_true, Bool.not_eq_true', Bool.and_eq_false_iff, Bool.or_eq_false_iff, Bool.not_eq_false', decide_eq_true_eq, decide_eq_false_iff_not, eqNil] at hg; omega) | (simp only [List.length_append, List.length_map, List.length_range, List.length_replicate, List.length_take, List.length_drop, List.length_cons, List.length_nil, List.length_set, List.length_reverse]; omega))
      try simp only [thenA_normal]
      refine ⟨i + 1, ?_, Sub.refl _, by omega, by omega⟩
      rw [take_snoc s i (by omega), List.all_append, List.all_cons, List.all_nil, Bool.and_true, ← dg_two, ← Bool.and_assoc, ← Bool.and_assoc]
      rfl
    · try simp only [decide_eq_false_iff_not] at hb2
      have hil : i = s.length := by omega
      rw [hil, List.take_length]
      obtain ⟨d, e, hde⟩ : ∃ d e, newE neg s scale = (d, e) := ⟨_, _, rfl⟩
      refine awp_exit ?_
      change Awp _ _ _ _ _ _ _
      -- region 8  law.go:182
      refine awp_rseq [0, 1, 2, 7, 9, 10] (by rfl) fun K hK => ?_
      simp (decide := true) only [ev, putD, Slots.put, Slots.get, if_true, if_false, true_and, ↓ap_move, pop_move]
      repeat (with_reducible refine And.intro ?_ ?_; · first | trivial | omega | (intro hg; simp only [Bool.and_eq_true, Bool.or_eq_true, Bool.not_eq_true', Bool.and_eq_false_iff, Bool.or_eq_false_iff, Bool.not_eq_false', decide_eq_true_eq, decide_eq_false_iff_not, eqNil] at hg; omega) | (simp only [List.length_append, List.length_map, List.length_range, List.length_replicate, List.length_take, List.length_drop, List.length_cons, List.length_nil, List.length_set, List.length_reverse]; omega))
      refine aOps_callV (V := .tuple [decA d, .int .i64 e]) (by rfl) (by rfl) ((c_New w₀ _ neg s scale hl).val (by rw [hde])) ?_
      simp (decide := true) only [ev, putD, Slots.put, Slots.get, if_true, if_false, true_and, ↓ap_move, pop_move, ↓ap_extract, pop_extract, pExt_tuple, List.length_cons, List.length_nil, List.getD_cons_zero, List.getD_cons_succ, List.getD_cons_zero, List.getD_cons_succ, Nat.zero_add, Nat.reduceAdd, decA]
      repeat (with_reducible refine And.intro ?_ ?_; · first | trivial | omega | (intro hg; simp only [Bool.and_eq_true, Bool.or_eq_true, Bool.not_eq_true', Bool.and_eq_false_iff, Bool.or_eq_false_iff, Bool.not_eq_false', decide_eq_true_eq, decide_eq_false_iff_not, eqNil] at hg; omega) | (simp only [List.length_append, List.length_map, List.length_range, List.length_replicate, List.length_take, List.length_drop, List.length_cons, List.length_nil, List.length_set, List.length_reverse]; omega))
      refine aOps_alloc ze27 (cs := [.bool false, .str [], .int .i64 0]) (by rfl) fun k8q7 hk8q7 => ?_
      try have hf_8q7 : h k8q7 = none := by first | assumption | (simp only [AHeap.set_none] at hk8q7; simp only [hk8q7])
      refine aOps_store (by rfl) (by rfl) (by repeat (first | exact AHeap.set_same _ _ _ | assumption | refine (AHeap.set_ne _ _ (by first | assumption | exact Ne.symm (by assumption))).trans ?_)) sz27 (by rfl) (by rfl) (by first | exact Nat.le_refl _ | decide | (simp; done) | (simp; omega)) (Nat.zero_le _) (by rfl) ?_
      simp only [AHeap.set_set, AVal.cells]
      simp (decide := true) only [aOps_nil, ev, putD, Slots.put, Slots.get, Slots.keep, if_true, if_false, true_and, ↓ap_assign, pop_assign, setAt, List.set_cons_zero, List.set_cons_succ, Nat.zero_add, Nat.reduceAdd]
      repeat (with_reducible refine And.intro ?_ ?_; · first | trivial | omega | (intro hg; simp only [Bool.and_eq_true, Bool.or_eq_true, Bool.not_eq_true', Bool.and_eq_false_iff, Bool.or_eq_false_iff, Bool.not_eq_false', decide_eq_true_eq, decide_eq_false_iff_not, eqNil] at hg; omega) | (simp only [List.length_append, List.length_map, List.length_range, List.length_replicate, List.length_take, List.length_drop, List.length_cons, List.length_nil, List.length_set, List.length_reverse]; omega))
      apply hK; clear hK K
      refine awp_seq ?_
      -- region 9  law.go:183
      refine awp_rseq [0, 1, 2, 9, 10, 60] (by rfl) fun K hK => ?_
      simp (decide := true) only [aOps_nil, ev, putD, Slots.put, Slots.get, Slots.keep, if_true, if_false, true_and, ↓ap_move, pop_move, ↓ap_unOp, pop_unOp, pU_not]
      try simp (disch := omega) only [wrap_i64, wrap_u8]
      repeat (with_reducible refine And.intro ?_ ?_; · first | trivial | omega | (intro hg; simp only [Bool.and_eq_true, Bool.or_eq_true, Bool.not_eq_true', Bool.and_eq_false_iff, Bool.or_eq_false_iff, Bool.not_eq_false', decide_eq_true_eq, decide_eq_false_iff_not, eqNil] at hg; omega) | (simp only [List.length_append, List.length_map, List.length_range, List.length_replicate, List.length_take, List.length_drop, List.length_cons, List.length_nil, List.length_set, List.length_reverse]; omega))
      apply hK; clear hK K
      refine awp_cond (b := _) rfl (fun hb3 => ?_) (fun hb3 => ?_)
      · try simp only [Bool.not_eq_true', Bool.and_eq_false_iff] at hb3
        -- region 10  law.go:184
        refine awp_rseq [6] (by rfl) fun K hK => ?_
        simp (decide := true) only [ev, absV, absS, putD, Slots.put, Slots.get, if_true, if_false, true_and, ↓ap_move, pop_move, ↓ap_binOp, pop_binOp, isNilC_int, cond_false, pBinX_int, pI_eql, ↓ag_loadL, agQL_some, agL_mk, agP, agQ_some, nthDst, gKnown_bool, guardB_bool_true, implies_true, Bool.and_true, pLoad_agg ag27 sz27, ↓ag_build, ↓pop_buildL, bld27_, evP, List.map_nil, ↓ag_binOp, isNilC_tmp, cv_binl, cv_binr, cp_binl, cp_binr, pBinX_agg, eq27, ↓ap_pick, pop_pick, pPick_bool, pickV_cond_l, pickV_and, rd_any, cellsAt, List.getD_cons_zero, List.getD_cons_succ, Nat.zero_add, Nat.reduceAdd, lv_bool, lv_int, lv_str, allLive, Bool.and_true]
        repeat (with_reducible refine And.intro ?_ ?_; · first | trivial | omega | (intro hg; simp only [Bool.and_eq_true, Bool.or_eq_true, Bool.not_eq_true', Bool.and_eq_false_iff, Bool.or_eq_false_iff, Bool.not_eq_false', decide_eq_true_eq, decide_eq_false_iff_not, eqNil] at hg; omega) | (simp only [List.length_append, List.length_map, List.length_range, List.length_replicate, List.length_take, List.length_drop, List.length_cons, List.length_nil, List.length_set, List.length_reverse]; omega))
        first
        | (refine aOps_yes (by rfl) ?_; refine aOps_callV (V := .bool true) (by rfl) (by rfl) (c_lives12 w₀ ht he _) ?_)
        | (refine aOps_gcall (V := .bool true) (f := _) (cap := _) (xs := _) rfl (fun hg => ⟨rfl, ?_⟩) (fun hg => c_lives12 w₀ ht he _) ?_; · (simp (decide := true) only [gv, nthDst, Slots.get, if_true, if_false, guardB_bool_true] at hg; simp (decide := true) only [evs, hg, List.append_nil, List.map_nil] <;> try rfl))
        simp (decide := true) only [aOps_nil, ev, absV, absS, putD, Slots.put, Slots.get, Slots.keep, if_true, if_false, true_and, gv, nthDst, guardB_bool_true, ↓ap_pick, pop_pick, pPick_bool, pickV_cond_l, pickV_and, ↓ap_assign, pop_assign, Bool.and_true]
        repeat (with_reducible refine And.intro ?_ ?_; · first | trivial | omega | (intro hg; simp only [Bool.and_eq_true, Bool.or_eq_true, Bool.not_eq_true', Bool.and_eq_false_iff, Bool.or_eq_false_iff, Bool.not_eq_false', decide_eq_true_eq, decide_eq_false_iff_not, eqNil] at hg; omega) | (simp only [List.length_append, List.length_map, List.length_range, List.length_replicate, List.length_take, List.length_drop, List.length_cons, List.length_nil, List.length_set, List.length_reverse]; omega))
        apply hK; clear hK K
        refine awp_ret ?_
        try simp only [thenA_ret]
        refine retA_ret h (by repeat (first | exact Sub.refl _ | refine Sub.trans_set ?_ (by assumption))) (resPre_tmp (resPre_nil)) ?_
        simp (decide := true) only [Slots.get, if_true, and_true, resOf_one]
        have hbad := new_bad (neg := neg) (s := s) (scale := scale) (by rw [Bool.and_eq_false_iff]; exact hb3)
        rw [hde] at hbad
        obtain ⟨q1, q2⟩ := Prod.mk.inj hbad
        rw [q1, q2]
        simp [noD]
      · try simp only [Bool.not_eq_false', Bool.and_eq_true] at hb3
        obtain ⟨hn, hda, hs1, hs2, hs3⟩ := new_good (neg := neg) (s := s) (scale := scale) (by simpa using hb3)
        rw [hde] at hn
        refine awp_skip ?_
        change Awp _ _ _ _ _ _ _
        -- region 11  law.go:186
        refine awp_rseq [0, 2, 9, 10, 11] (by rfl) fun K hK => ?_
        simp (decide := true) only [aOps_nil, ev, putD, Slots.put, Slots.get, Slots.keep, if_true, if_false, true_and, ↓ap_move, pop_move, ↓ap_assign, pop_assign]
        repeat (with_reducible refine And.intro ?_ ?_; · first | trivial | omega | (intro hg; simp only [Bool.and_eq_true, Bool.or_eq_true, Bool.not_eq_true', Bool.and_eq_false_iff, Bool.or_eq_false_iff, Bool.not_eq_false', decide_eq_true_eq, decide_eq_false_iff_not, eqNil] at hg; omega) | (simp only [List.length_append, List.length_map, List.length_range, List.length_replicate, List.length_take, List.length_drop, List.length_cons, List.length_nil, List.length_set, List.length_reverse]; omega))
        apply hK; clear hK K
        refine awp_seq ?_
        -- region 12  law.go:187
        refine awp_rseq [0, 2, 9, 10, 11, 12] (by rfl) fun K hK => ?_
        simp (decide := true) only [aOps_nil, ev, putD, Slots.put, Slots.get, Slots.keep, if_true, if_false, true_and, ↓ap_move, pop_move, ↓ap_assign, pop_assign]
        repeat (with_reducible refine And.intro ?_ ?_; · first | trivial | omega | (intro hg; simp only [Bool.and_eq_true, Bool.or_eq_true, Bool.not_eq_true', Bool.and_eq_false_iff, Bool.or_eq_false_iff, Bool.not_eq_false', decide_eq_true_eq, decide_eq_false_iff_not, eqNil] at hg; omega) | (simp only [List.length_append, List.length_map, List.length_range, List.length_replicate, List.length_take, List.length_drop, List.length_cons, List.length_nil, List.length_set, List.length_reverse]; omega))
        apply hK; clear hK K
        refine awp_block ?_
        refine awp_loopG [0, 2, 9, 10, 11, 12] (fun k : Nat => [(0, .bool neg), (2, .int .i64 scale), (9, .ptr (.own k8q7) 0), (10, .int .i64 e), (11, .str (s ++ List.replicate k 48)), (12, .int .i64 (scale + k))]) (fun k : Nat => h.set k8q7 ⟨[.bool d.neg, .str d.dig, .int .i64 d.scale], 0⟩) (fun k : Nat => (k : Int) ≤ max (-scale) 0) (fun k : Nat => 2000 - k) 0 (by rw [List.replicate_zero, List.append_nil]; simp [Slots.keep]) (Sub.refl _) (by omega) ?_
        intro k hk
        refine awp_seq ?_
        -- region 13  law.go:187
        refine awp_rseq [0, 2, 9, 10, 11, 12, 74] (by rfl) fun K hK => ?_
        simp (decide := true) only [aOps_nil, ev, absV, absS, putD, Slots.put, Slots.get, Slots.keep, if_true, if_false, true_and, ↓ap_move, pop_move, ↓ap_binOp, pop_binOp, isNilC_int, cond_false, pBinX_int, pI_lss]
        repeat (with_reducible refine And.intro ?_ ?_; · first | trivial | omega | (intro hg; simp only [Bool.and_eq_true, Bool.or_eq_true, Bool.not_eq_true', Bool.and_eq_false_iff, Bool.or_eq_false_iff, Bool.not_eq_false', decide_eq_true_eq, decide_eq_false_iff_not, eqNil] at hg; omega) | (simp only [List.length_append, List.length_map, List.length_range, List.length_replicate, List.length_take, List.length_drop, List.length_cons, List.length_nil, List.length_set, List.length_reverse]; omega))
        apply hK; clear hK K
        refine awp_cond (b := _) rfl (fun hb4 => ?_) (fun hb4 => ?_)
        · try simp only [decide_eq_true_eq] at hb4
          refine awp_skip ?_
          change Awp _ _ _ _ _ _ _
          refine awp_seq ?_
          refine awp_block ?_
          -- region 15  law.go:188
          refine awp_r [0, 2, 9, 10, 11, 12] (by rfl) ?_
          simp (decide := true) only [aOps_nil, ev, absV, absS, putD, Slots.put, Slots.get, Slots.keep, if_true, if_false, true_and, ↓ap_move, pop_move, ↓ap_binOp, pop_binOp, isNilC_str, cond_false, pBinX_str, pS_add, ↓ap_assign, pop_assign]
          repeat (with_reducible refine And.intro ?_ ?_; · first | trivial | omega | (intro hg; simp only [Bool.and_eq_true, Bool.or_eq_true, Bool.not_eq_true', Bool.and_eq_false_iff, Bool.or_eq_false_iff, Bool.not_eq_false', decide_eq_true_eq, decide_eq_false_iff_not, eqNil] at hg; omega) | (simp only [List.length_append, List.length_replicate, List.length_cons, List.length_nil]; omega))
          change Awp _ _ _ _ _ _ _
          -- region 14  law.go:187
          refine awp_r [0, 2, 9, 10, 11, 12] (by rfl) ?_
          simp (decide := true) only [aOps_nil, ev, absV, absS, putD, Slots.put, Slots.get, Slots.keep, if_true, if_false, true_and, ↓ap_move, pop_move, ↓ap_binOp, pop_binOp, isNilC_int, cond_false, pBinX_int, pI_add, ↓ap_assign, pop_assign]
          try simp (disch := omega) only [wrap_i64]
          repeat (with_reducible refine And.intro ?_ ?_; · first | trivial | omega | (intro hg; simp only [Bool.and_eq_true, Bool.or_eq_true, Bool.not_eq_true', Bool.and_eq_false_iff, Bool.or_eq_false_iff, Bool.not_eq_false', decide_eq_true_eq, decide_eq_false_iff_not, eqNil] at hg; omega) | (simp only [List.length_append, List.length_map, List.length_range, List.length_replicate, List.length_take, List.length_drop, List.length_cons, List.length_nil, List.length_set, List.length_reverse]; omega))
          try simp only [thenA_normal]
          refine ⟨k + 1, ?_, Sub.refl _, by omega, by omega⟩
          rw [show ((k + 1 : Nat) : Int) = (k : Int) + 1 by omega, ← Int.add_assoc, List.replicate_succ', ← List.append_assoc]
          rfl
        · try simp only [decide_eq_false_iff_not] at hb4
          have hkk : k = (-scale).toNat := by omega
          rw [hkk]
          obtain ⟨c, hc⟩ : ∃ c, c = canon neg (natOf s * 10 ^ (-scale).toNat) scale.toNat := ⟨_, rfl⟩
          have hn2 : (d, e) = resE c := by rw [hn, normE, ← hc]
          obtain ⟨hdl, hde0⟩ := res_ok hc hn2
          refine awp_exit ?_
          change Awp _ _ _ _ _ _ _
          -- region 16  law.go:190
          refine awp_rseq [9, 10, 13] (by rfl) fun K hK => ?_
          simp (decide := true) only [ev, absV, absS, putD, Slots.put, Slots.get, if_true, if_false, true_and, ↓ap_move, pop_move, ↓ap_max, pop_max, pMax_int, evs, List.map_cons, List.map_nil]
          repeat (with_reducible refine And.intro ?_ ?_; · first | trivial | omega | (intro hg; simp only [Bool.and_eq_true, Bool.or_eq_true, Bool.not_eq_true', Bool.and_eq_false_iff, Bool.or_eq_false_iff, Bool.not_eq_false', decide_eq_true_eq, decide_eq_false_iff_not, eqNil] at hg; omega) | (simp only [List.length_append, List.length_map, List.length_range, List.length_replicate, List.length_take, List.length_drop, List.length_cons, List.length_nil, List.length_set, List.length_reverse]; omega))
          refine aOps_callV (V := decA c) (by rfl) (by rfl) ((c_Normal w₀ _ neg (s ++ List.replicate (-scale).toNat 48) (max scale 0) (by rw [all_append, all_zeros, hda]; rfl) (by rw [List.length_append, List.length_replicate]; omega) (by omega) (by omega)).val (by rw [hc, natOf_append, natOf_zeros, List.length_replicate, Nat.add_zero, show (max scale 0).toNat = scale.toNat by omega])) ?_
          refine aOps_alloc ze27 (cs := [.bool false, .str [], .int .i64 0]) (by rfl) fun k16q5 hk16q5 => ?_
          have ne_16q5_8q7 : k16q5 ≠ k8q7 := by simp only [AHeap.set_none] at hk16q5; simp only [hk16q5, ne_eq, not_false_eq_true]
          try have hf_16q5 : h k16q5 = none := by first | assumption | (simp only [AHeap.set_none] at hk16q5; simp only [hk16q5])
          refine aOps_store (by rfl) (by rfl) (by repeat (first | exact AHeap.set_same _ _ _ | assumption | refine (AHeap.set_ne _ _ (by first | assumption | exact Ne.symm (by assumption))).trans ?_)) sz27 (by rfl) (by rfl) (by first | exact Nat.le_refl _ | decide | (simp; done) | (simp; omega)) (Nat.zero_le _) (by rfl) ?_
          simp only [AHeap.set_set, AVal.cells]
          simp (decide := true) only [aOps_nil, ev, putD, Slots.put, Slots.get, Slots.keep, if_true, if_false, setAt, List.set_cons_zero, List.set_cons_succ, Nat.zero_add, Nat.reduceAdd, decA]
          repeat (with_reducible refine And.intro ?_ ?_; · first | trivial | omega | (intro hg; simp only [Bool.and_eq_true, Bool.or_eq_true, Bool.not_eq_true', Bool.and_eq_false_iff, Bool.or_eq_false_iff, Bool.not_eq_false', decide_eq_true_eq, decide_eq_false_iff_not, eqNil] at hg; omega) | (simp only [List.length_append, List.length_map, List.length_range, List.length_replicate, List.length_take, List.length_drop, List.length_cons, List.length_nil, List.length_set, List.length_reverse]; omega))
          apply hK; clear hK K
          refine awp_seq ?_
          -- region 17  law.go:191
          refine awp_rseq [9, 10, 88] (by rfl) fun K hK => ?_
          simp (decide := true) only [ev, putD, Slots.put, Slots.get, if_true, if_false, true_and, ↓ap_loadL, apL_mk, pLoad_agg ag27 sz27, ↓ap_move, pop_move, rd_ne', ne_eq, not_false_eq_true, ne_16q5_8q7.symm, rd_any, cellsAt, List.getD_cons_zero, List.getD_cons_succ, Nat.zero_add, Nat.reduceAdd, lv_bool, lv_int, lv_str, allLive, Bool.and_true]
          repeat (with_reducible refine And.intro ?_ ?_; · first | trivial | omega | (intro hg; simp only [Bool.and_eq_true, Bool.or_eq_true, Bool.not_eq_true', Bool.and_eq_false_iff, Bool.or_eq_false_iff, Bool.not_eq_false', decide_eq_true_eq, decide_eq_false_iff_not, eqNil] at hg; omega) | (simp only [List.length_append, List.length_map, List.length_range, List.length_replicate, List.length_take, List.length_drop, List.length_cons, List.length_nil, List.length_set, List.length_reverse]; omega))
          refine aOps_callV (V := .bool true) (by rfl) (by rfl) ((c_is w₀ _ d c e).val (by rw [decide_eq_true hn2])) ?_
          simp (decide := true) only [aOps_nil, ev, putD, Slots.put, Slots.get, Slots.keep, if_true, if_false, true_and, ↓ap_unOp, pop_unOp, pU_not]
          try simp (disch := omega) only [wrap_i64, wrap_u8]
          repeat (with_reducible refine And.intro ?_ ?_; · first | trivial | omega | (intro hg; simp only [Bool.and_eq_true, Bool.or_eq_true, Bool.not_eq_true', Bool.and_eq_false_iff, Bool.or_eq_false_iff, Bool.not_eq_false', decide_eq_true_eq, decide_eq_false_iff_not, eqNil] at hg; omega) | (simp only [List.length_append, List.length_map, List.length_range, List.length_replicate, List.length_take, List.length_drop, List.length_cons, List.length_nil, List.length_set, List.length_reverse]; omega))
          apply hK; clear hK K
          refine awp_cond (b := _) rfl (fun hb5 => ?_) (fun hb5 => ?_)
          · exact absurd hb5 (by decide)
          · try simp only [Bool.not_eq_false'] at hb5
            refine awp_skip ?_
            change Awp _ _ _ _ _ _ _
            -- region 19  law.go:194
            refine awp_rseq [6] (by rfl) fun K hK => ?_
            simp (decide := true) only [ev, absV, absS, putD, Slots.put, Slots.get, if_true, if_false, true_and, ↓ap_move, pop_move, ↓ap_binOp, pop_binOp, isNilC_int, cond_false, pBinX_int, pI_neq, ↓ag_loadL, agQL_some, agL_mk, agP, nthDst, gKnown_bool, guardB_bool_false, implies_true, Bool.not_not, Bool.not_true, Bool.and_true, pLoad_agg ag27 sz27, rd_ne', ne_eq, not_false_eq_true, ne_16q5_8q7.symm, rd_any, cellsAt, List.getD_cons_zero, List.getD_cons_succ, Nat.zero_add, Nat.reduceAdd, lv_bool, lv_int, lv_str, allLive, Bool.and_true]
            repeat (with_reducible refine And.intro ?_ ?_; · first | trivial | omega | (intro hg; simp only [Bool.and_eq_true, Bool.or_eq_true, Bool.not_eq_true', Bool.and_eq_false_iff, Bool.or_eq_false_iff, Bool.not_eq_false', decide_eq_true_eq, decide_eq_false_iff_not, eqNil] at hg; omega) | (simp only [List.length_append, List.length_map, List.length_range, List.length_replicate, List.length_take, List.length_drop, List.length_cons, List.length_nil, List.length_set, List.length_reverse]; omega))
            first
            | (refine aOps_yes (by rfl) ?_; refine aOps_callV (V := .int .i64 (checkE d)) (by rfl) (by rfl) (c_Check w₀ _ d hdl) ?_)
            | (refine aOps_gcall (V := .int .i64 (checkE d)) (f := _) (cap := _) (xs := _) rfl (fun hg => ⟨rfl, ?_⟩) (fun hg => c_Check w₀ _ d hdl) ?_; · (simp (decide := true) only [gv, nthDst, Slots.get, if_true, if_false, guardB_bool_false, Bool.not_not] at hg; simp (decide := true) only [evs, ev, Slots.get, if_true, if_false, hg, condV_true, List.append_nil, List.map_cons, List.map_nil] <;> try rfl))
            simp (decide := true) only [ev, absV, absS, putD, Slots.put, Slots.get, if_true, if_false, true_and, gv, nthDst, guardB_bool_false, ↓ag_binOp, pop_binOp, agP, agQ_some, gKnown_bool, implies_true, Bool.not_not, isNilC_int, cond_false, cv_binl, cp_binl, pBinX_int, pI_eql, ↓ap_pick, pop_pick, pPick_bool, pickV_cond_rn, pickV_or, ↓ap_move, pop_move]
            repeat (with_reducible refine And.intro ?_ ?_; · first | trivial | omega | (intro hg; simp only [Bool.and_eq_true, Bool.or_eq_true, Bool.not_eq_true', Bool.and_eq_false_iff, Bool.or_eq_false_iff, Bool.not_eq_false', decide_eq_true_eq, decide_eq_false_iff_not, eqNil] at hg; omega) | (simp only [List.length_append, List.length_map, List.length_range, List.length_replicate, List.length_take, List.length_drop, List.length_cons, List.length_nil, List.length_set, List.length_reverse]; omega))
            first
            | (refine aOps_yes (by rfl) ?_; refine aOps_callV (V := .bool true) (by rfl) (by rfl) (c_lives12 w₀ ht he _) ?_)
            | (refine aOps_gcall (V := .bool true) (f := _) (cap := _) (xs := _) rfl (fun hg => ⟨rfl, ?_⟩) (fun hg => c_lives12 w₀ ht he _) ?_; · (simp (decide := true) only [gv, nthDst, Slots.get, if_true, if_false, guardB_bool_true] at hg; simp (decide := true) only [evs, hg, List.append_nil, List.map_nil] <;> try rfl))
            simp (decide := true) only [aOps_nil, ev, absV, absS, putD, Slots.put, Slots.get, Slots.keep, if_true, if_false, true_and, gv, nthDst, guardB_bool_true, ↓ap_pick, pop_pick, pPick_bool, pickV_cond_l, pickV_and, ↓ap_assign, pop_assign, Bool.and_true]
            repeat (with_reducible refine And.intro ?_ ?_; · first | trivial | omega | (intro hg; simp only [Bool.and_eq_true, Bool.or_eq_true, Bool.not_eq_true', Bool.and_eq_false_iff, Bool.or_eq_false_iff, Bool.not_eq_false', decide_eq_true_eq, decide_eq_false_iff_not, eqNil] at hg; omega) | (simp only [List.length_append, List.length_map, List.length_range, List.length_replicate, List.length_take, List.length_drop, List.length_cons, List.length_nil, List.length_set, List.length_reverse]; omega))
            apply hK; clear hK K
            refine awp_ret ?_
            try simp only [thenA_ret, inBlockA_ret]
            refine retA_ret h (by repeat (first | exact Sub.refl _ | refine Sub.trans_set ?_ (by assumption))) (resPre_tmp (resPre_nil)) ?_
            simp (decide := true) only [Slots.get, if_true, and_true, resOf_one]
            by_cases e0 : e = 0
            · rw [hde0 e0]; simp
            · simp [e0]
end Go.Proofs.YthiiakghjoeikaaGreatDoor
