/-
  The statement DecimalsInts, walked.
  Conditions: none.
-/
import Derived.Test.YthiiakghjoeikaaGreatDoorDcN
import Derived.Test.YthiiakghjoeikaaGreatDoorDcQ
import Derived.Test.YthiiakghjoeikaaGreatDoorDcR
set_option linter.unusedSimpArgs false
set_option linter.unnecessarySimpa false
set_option linter.unusedVariables false
namespace Go.Proofs.YthiiakghjoeikaaGreatDoor
open Go.AM
open Go.Proofs
open Go.Dec
open Go.Lib (decDigits)
set_option maxRecDepth 100000

theorem dig_int {d : D} (h : checkE d = 0) (hs : ¬ 0 < d.scale) : d.dig = decDigits (natOf d.dig) ∧ (d.neg = true → natOf d.dig ≠ 0) := by
  have v1 := (val_canon h).1
  rw [show d.scale.toNat = 0 by omega] at v1
  by_cases hN : natOf d.dig = 0
  · rw [hN, canon_zero] at v1
    rw [hN]
    exact ⟨by rw [v1, decDigits_small (by omega)]; rfl, fun e => by rw [v1] at e; cases e⟩
  · refine ⟨?_, fun _ => hN⟩
    have e := congrArg D.dig v1
    rw [canon, if_neg hN, strip_done (.inl rfl)] at e
    exact e
theorem intV_neg (neg : Bool) (n : Nat) (h : neg = true → n ≠ 0) : decide (intV neg n < 0) = neg ∧ (intV neg n).natAbs = n := by
  unfold intV
  cases neg
  · exact ⟨by rw [if_neg (by decide)]; exact decide_eq_false (by omega), by rw [if_neg (by decide)]; omega⟩
  · have := h rfl
    exact ⟨by rw [if_pos rfl]; exact decide_eq_true (by omega), by rw [if_pos rfl]; omega⟩
theorem itoa_int (n : Int) : Lib.itoa n = if decide (n < 0) = true then [45] ++ decDigits n.natAbs else decDigits n.natAbs := by
  unfold Lib.itoa
  by_cases hn : n < 0
  · rw [if_pos hn, decide_eq_true hn, if_pos rfl]
    try rw [show (-n).toNat = n.natAbs by omega]
    try rfl
  · rw [if_neg hn, decide_eq_false hn, if_neg (by decide), show n.toNat = n.natAbs by omega]
theorem text_int {d : D} (h : checkE d = 0) (hs : ¬ 0 < d.scale) : textE d = Lib.itoa (intV d.neg (natOf d.dig)) := by
  obtain ⟨e1, e2⟩ := dig_int h hs
  obtain ⟨sd, dd, nd, _⟩ := Small_of_check h
  have h0 := sd.s0
  have hne : d.dig.length ≠ 0 := fun e => nd (List.length_eq_zero_iff.1 e)
  obtain ⟨f1, f2⟩ := intV_neg d.neg (natOf d.dig) e2
  have hp : padL d.dig (d.scale + 1) = d.dig := by
    rw [padL, show (d.scale + 1 - d.dig.length).toNat = 0 by omega]
    rfl
  rw [textE, if_neg (fun q => q h), itoa_int, f1, f2, ← e1]
  simp only [hp]
  rw [if_neg hs]
theorem intD_canon (n : Int) : intD n = canon (decide (n < 0)) n.natAbs 0 := by
  unfold canon
  split
  · have : n = 0 := by omega
    subst this
    show (⟨decide ((0 : Int) < 0), decDigits 0, 0⟩ : D) = zeroD
    rw [decDigits_small (by omega)]
    rfl
  · rw [strip_done (.inl rfl)]
    rfl
theorem intD_check (n : Int) (h0 : -9223372036854775808 ≤ n) (h1 : n ≤ 9223372036854775807) : checkE (intD n) = 0 := by
  rw [intD_canon]
  refine check_canon _ _ _ (long_canon _ _ _ (Nat.lt_of_le_of_lt (m := 9223372036854775808) (by omega) (by decide)) (by decide))
theorem intD_val (n : Int) : intV (intD n).neg (natOf (intD n).dig) = n := by
  show intV (decide (n < 0)) (natOf (decDigits n.natAbs)) = n
  rw [natOf_decDigits]
  unfold intV
  by_cases hn : n < 0
  · rw [decide_eq_true hn, if_pos rfl]; omega
  · rw [decide_eq_false hn, if_neg (by decide)]; omega
theorem intD_toInt (n : Int) (h0 : -9223372036854775808 ≤ n) (h1 : n ≤ 9223372036854775807) : toIntE (intD n) = (n, 0) := by
  have hv := intD_val n
  rw [toIntE, if_neg (fun e => e (intD_check n h0 h1)), if_neg (show ¬ 0 < (intD n).scale from (by show ¬ (0 : Int) < 0; decide)), hv, if_pos]
  unfold intOk
  rw [hv, decide_eq_true h0, decide_eq_true h1]
  rfl
theorem intD_text (n : Int) (h0 : -9223372036854775808 ≤ n) (h1 : n ≤ 9223372036854775807) : textE (intD n) = Lib.itoa n := by
  rw [text_int (intD_check n h0 h1) (show ¬ (0 : Int) < 0 by decide), intD_val]
def big19 : List UInt8 := [57, 50, 50, 51, 51, 55, 50, 48, 51, 54, 56, 53, 52, 55, 55, 53, 56, 48, 56]
theorem big19_val : natOf big19 = 9223372036854775808 := by decide
theorem toInt_big {d : D} (h : checkE d = 0) (hs : ¬ 0 < d.scale) (he : (toIntE d).2 = 13) : (toIntE d).1 = 0 ∧
    (decide (19 < (d.dig.length : Int)) || decide ((d.dig.length : Int) = 19) && (!(Op.bytesLess d.dig big19 || decide (d.dig = big19)) || decide (d.dig = big19) && !d.neg)) = true := by
  obtain ⟨sd, dd, nd, _⟩ := Small_of_check h
  rw [toIntE, if_neg (fun q => q h), if_neg hs] at he ⊢
  by_cases ho : intOk d.neg (natOf d.dig) = true
  · rw [if_pos ho] at he
    cases he
  · rw [if_neg ho]
    refine ⟨rfl, ?_⟩
    unfold intOk intV at ho
    rw [Bool.and_eq_true, decide_eq_true_eq, decide_eq_true_eq] at ho
    rcases Nat.lt_trichotomy d.dig.length 19 with c | c | c
    · exfalso
      have h1 := natOf_lt _ dd
      have h2 : 10 ^ d.dig.length ≤ 10 ^ 18 := Nat.pow_le_pow_right (by omega) (by omega)
      have h3 : (10 : Nat) ^ 18 = 1000000000000000000 := by decide
      apply ho
      split <;> omega
    · obtain ⟨l1, l2⟩ := less_nat d.dig big19 dd (by decide) (by rw [c]; rfl)
      rw [big19_val] at l1 l2
      have b1 : Op.bytesLess d.dig big19 = decide (natOf d.dig < 9223372036854775808) := by rw [Bool.eq_iff_iff, l1, decide_eq_true_eq]
      have b2 : decide (d.dig = big19) = decide (natOf d.dig = 9223372036854775808) := by rw [Bool.eq_iff_iff, decide_eq_true_eq, l2, decide_eq_true_eq]
      rw [b1, b2, decide_eq_true (show (d.dig.length : Int) = 19 by omega)]
      cases hn : d.neg with
      | true =>
        rw [hn, if_pos rfl] at ho
        rw [decide_eq_false (show ¬ natOf d.dig < 9223372036854775808 by omega), decide_eq_false (show ¬ natOf d.dig = 9223372036854775808 by omega)]
        simp
      | false =>
        rw [hn, if_neg (by decide)] at ho
        rw [decide_eq_false (show ¬ natOf d.dig < 9223372036854775808 by omega)]
        by_cases q : natOf d.dig = 9223372036854775808
        · rw [decide_eq_true q]; simp
        · rw [decide_eq_false q]; simp
    · rw [decide_eq_true (show (19 : Int) < d.dig.length by omega)]
      rfl
theorem toInt_ok {d : D} (h : checkE d = 0) (hs : ¬ 0 < d.scale) (he : (toIntE d).2 ≠ 13) : toIntE d = (intV d.neg (natOf d.dig), 0) ∧ -9223372036854775808 ≤ intV d.neg (natOf d.dig) ∧ intV d.neg (natOf d.dig) ≤ 9223372036854775807 := by
  rw [toIntE, if_neg (fun q => q h), if_neg hs] at he ⊢
  by_cases ho : intOk d.neg (natOf d.dig) = true
  · rw [if_pos ho]
    unfold intOk at ho
    rw [Bool.and_eq_true, decide_eq_true_eq, decide_eq_true_eq] at ho
    exact ⟨rfl, ho⟩
  · rw [if_neg ho] at he
    exact absurd rfl he

set_option maxHeartbeats 1000000 in
theorem l_DecimalsInts (w₀ : World) (ht : Tab10 w₀) (he : Errs w₀) (h : AHeap) (n : Int) (h0 : -9223372036854775808 ≤ n) (h1 : n ≤ 9223372036854775807) (neg : Bool) (v : AVal) (bs : List UInt8) (sc : UInt8) (hb : IsB w₀ h v bs) (hbl : bs.length ≤ 9223372036854775807) :
    ACall Tryz.prog w₀ 10 [.int .i64 n, .agg [.bool neg, v, .int .u8 sc.toNat]] h (fun x _ => x = .bool true) := by
  refine ACall.mono (R := fun x h' => x = .bool true ∧ h' = h) ?_ fun x h' hx => hx.1
  have hlv := hb.live
  obtain ⟨d, hd⟩ : ∃ d, d = ofN neg bs sc := ⟨_, rfl⟩
  have hv : checkE d = 0 := by rw [hd]; exact ofN_check _ _ _
  have hdl := check_len hv
  have iv := intD_check n h0 h1
  have il := check_len iv
  have it := intD_text n h0 h1
  obtain ⟨m, e, hme⟩ : ∃ m e, toIntE d = (m, e) := ⟨_, _, rfl⟩
  refine acall_intro (n := 104) (rs := [.tmp 4]) Tryz.func10 rfl rfl rfl rfl (Nat.le_of_ble_eq_true rfl) ?_
  simp only [initSlots]
  -- region 0  law.go:394
  refine awp_rseq [0, 3] (by rfl) fun K hK => ?_
  refine aOps_box (by rfl) (by rfl) (by rfl) fun k0q0 hk0q0 => ?_
  try have hf_0q0 : h k0q0 = none := by first | assumption | (simp only [AHeap.set_none] at hk0q0; simp only [hk0q0])
  skip
  simp (decide := true) only [aOps_nil, vOps_nil, fOps_nil, kOps_nil, ev, absV, absS, putD, Slots.put, Slots.get, Slots.keep, if_true, if_false, List.contains_cons, List.contains_nil, true_and, and_true, ↓ap_assign, pop_assign, rd_ne', ne_eq, not_false_eq_true, rd_any, AVal.cells, setAt, List.set_cons_zero, List.set_cons_succ, cellsAt, List.getD_cons_zero, List.getD_cons_succ, Nat.zero_add, Nat.reduceAdd, lv_bool, lv_int, lv_str, lv_nilPtr, lv_ptr, lv_nilSlice, lv_slice, lv_nilFunc, lv_func, lv_nilIface, lv_iface, lv_nilMap, lv_agg, lv_tuple, allLive, Bool.and_true, decA, hlv]
  repeat (with_reducible refine And.intro ?_ ?_; · first | trivial | omega | (intro hg; simp only [Bool.and_eq_true, Bool.or_eq_true, Bool.not_eq_true', Bool.and_eq_false_iff, Bool.or_eq_false_iff, Bool.not_eq_false', decide_eq_true_eq, decide_eq_false_iff_not, eqNil] at hg; omega) )
  apply hK; clear hK K
  -- region 1  law.go:395
  refine awp_rseq [0, 3, 5] (by rfl) fun K hK => ?_
  simp (decide := true) only [aOps_nil, vOps_nil, fOps_nil, kOps_nil, ev, absV, absS, putD, Slots.put, Slots.get, Slots.keep, if_true, if_false, List.contains_cons, List.contains_nil, true_and, and_true, ↓ap_move, pop_move, rd_ne', ne_eq, not_false_eq_true, rd_any, AVal.cells, setAt, List.set_cons_zero, List.set_cons_succ, cellsAt, List.getD_cons_zero, List.getD_cons_succ, Nat.zero_add, Nat.reduceAdd, lv_bool, lv_int, lv_str, lv_nilPtr, lv_ptr, lv_nilSlice, lv_slice, lv_nilFunc, lv_func, lv_nilIface, lv_iface, lv_nilMap, lv_agg, lv_tuple, allLive, Bool.and_true, decA, hlv]
  repeat (with_reducible refine And.intro ?_ ?_; · first | trivial | omega | (intro hg; simp only [Bool.and_eq_true, Bool.or_eq_true, Bool.not_eq_true', Bool.and_eq_false_iff, Bool.or_eq_false_iff, Bool.not_eq_false', decide_eq_true_eq, decide_eq_false_iff_not, eqNil] at hg; omega) )
  refine aOps_callV (V := decA (intD n)) (by rfl) (by rfl) (c_Int w₀ ht _ n h0 h1) ?_
  refine aOps_alloc ze27 (cs := [.bool false, .str [], .int .i64 0]) (by rfl) fun k1q2 hk1q2 => ?_
  have ne_1q2_0q0 : k1q2 ≠ k0q0 := by simp only [AHeap.set_none] at hk1q2; simp only [hk1q2, ne_eq, not_false_eq_true]
  try have hf_1q2 : h k1q2 = none := by first | assumption | (simp only [AHeap.set_none] at hk1q2; simp only [hk1q2])
  refine aOps_store (by rfl) (by rfl) (by repeat (first | exact AHeap.set_same _ _ _ | assumption | refine (AHeap.set_ne _ _ (by first | assumption | exact Ne.symm (by assumption))).trans ?_)) sz27 (by rfl) (by rfl) (by first | exact Nat.le_refl _ | decide | (simp; done) | (simp; omega)) (Nat.zero_le _) (by rfl) ?_
  simp only [AHeap.set_set, setAt, AVal.cells, List.set_cons_zero, List.set_cons_succ, Nat.zero_add, Nat.reduceAdd]
  simp (decide := true) only [aOps_nil, vOps_nil, fOps_nil, kOps_nil, ev, absV, absS, putD, Slots.put, Slots.get, Slots.keep, if_true, if_false, List.contains_cons, List.contains_nil, true_and, and_true, rd_ne', ne_eq, not_false_eq_true, ne_1q2_0q0, ne_1q2_0q0.symm, rd_any, AVal.cells, setAt, List.set_cons_zero, List.set_cons_succ, cellsAt, List.getD_cons_zero, List.getD_cons_succ, Nat.zero_add, Nat.reduceAdd, lv_bool, lv_int, lv_str, lv_nilPtr, lv_ptr, lv_nilSlice, lv_slice, lv_nilFunc, lv_func, lv_nilIface, lv_iface, lv_nilMap, lv_agg, lv_tuple, allLive, Bool.and_true, decA, hlv]
  repeat (with_reducible refine And.intro ?_ ?_; · first | trivial | omega | (intro hg; simp only [Bool.and_eq_true, Bool.or_eq_true, Bool.not_eq_true', Bool.and_eq_false_iff, Bool.or_eq_false_iff, Bool.not_eq_false', decide_eq_true_eq, decide_eq_false_iff_not, eqNil] at hg; omega) )
  apply hK; clear hK K
  -- region 2  law.go:396
  refine awp_rseq [0, 3, 5, 6, 7] (by rfl) fun K hK => ?_
  simp (decide := true) only [aOps_nil, vOps_nil, fOps_nil, kOps_nil, ev, absV, absS, putD, Slots.put, Slots.get, Slots.keep, if_true, if_false, List.contains_cons, List.contains_nil, true_and, and_true, ↓ap_loadL, apL_mk, pLoad_agg ag27 sz27, rd_ne', ne_eq, not_false_eq_true, ne_1q2_0q0, ne_1q2_0q0.symm, rd_any, AVal.cells, setAt, List.set_cons_zero, List.set_cons_succ, cellsAt, List.getD_cons_zero, List.getD_cons_succ, Nat.zero_add, Nat.reduceAdd, lv_bool, lv_int, lv_str, lv_nilPtr, lv_ptr, lv_nilSlice, lv_slice, lv_nilFunc, lv_func, lv_nilIface, lv_iface, lv_nilMap, lv_agg, lv_tuple, allLive, Bool.and_true, decA, hlv]
  repeat (with_reducible refine And.intro ?_ ?_; · first | trivial | omega | (intro hg; simp only [Bool.and_eq_true, Bool.or_eq_true, Bool.not_eq_true', Bool.and_eq_false_iff, Bool.or_eq_false_iff, Bool.not_eq_false', decide_eq_true_eq, decide_eq_false_iff_not, eqNil] at hg; omega) )
  refine aOps_callV (V := .tuple [.int .i64 n, .int .i64 0]) (by rfl) (by rfl) ((c_ToInt w₀ he _ (intD n) il).val (by rw [intD_toInt n h0 h1])) ?_
  simp (decide := true) only [aOps_nil, vOps_nil, fOps_nil, kOps_nil, ev, absV, absS, putD, Slots.put, Slots.get, Slots.keep, if_true, if_false, List.contains_cons, List.contains_nil, true_and, and_true, ↓ap_move, pop_move, ↓ap_extract, pop_extract, pExt_tuple, List.length_cons, List.length_nil, List.getD_cons_zero, List.getD_cons_succ, ↓ap_assign, pop_assign, rd_ne', ne_eq, not_false_eq_true, ne_1q2_0q0, ne_1q2_0q0.symm, rd_any, AVal.cells, setAt, List.set_cons_zero, List.set_cons_succ, cellsAt, List.getD_cons_zero, List.getD_cons_succ, Nat.zero_add, Nat.reduceAdd, lv_bool, lv_int, lv_str, lv_nilPtr, lv_ptr, lv_nilSlice, lv_slice, lv_nilFunc, lv_func, lv_nilIface, lv_iface, lv_nilMap, lv_agg, lv_tuple, allLive, Bool.and_true, decA, hlv]
  repeat (with_reducible refine And.intro ?_ ?_; · first | trivial | omega | (intro hg; simp only [Bool.and_eq_true, Bool.or_eq_true, Bool.not_eq_true', Bool.and_eq_false_iff, Bool.or_eq_false_iff, Bool.not_eq_false', decide_eq_true_eq, decide_eq_false_iff_not, eqNil] at hg; omega) )
  apply hK; clear hK K
  refine awp_seq ?_
  -- region 3  law.go:397
  refine awp_rseq [3, 36] (by rfl) fun K hK => ?_
  simp (decide := true) only [aOps_nil, vOps_nil, fOps_nil, kOps_nil, ev, absV, absS, putD, Slots.put, Slots.get, Slots.keep, if_true, if_false, List.contains_cons, List.contains_nil, true_and, and_true, ↓ap_move, pop_move, ↓ap_binOp, pop_binOp, isNilC_int, cond_false, pBinX_int, pI_neq, ↓ag_move, agP, agQ_some, gv, nthDst, gKnown_bool, gKnown_cond, guardB_cond, guardB_bool_true, guardB_bool_false, cv_cv, implies_true, Bool.not_not, decide_true, decide_false, Bool.not_false, Bool.not_true, condV_true, condV_false, forall_const, false_implies, pickV_true, pickV_false, Bool.and_true, Bool.and_false, Bool.true_and, Bool.false_and, Bool.or_true, Bool.or_false, Bool.true_or, Bool.false_or, ↓ag_binOp, isNilC_tmp, cv_binl, cv_binr, cp_binl, cp_binr, ↓ap_pick, pop_pick, pPick_bool, pickV_cond_l, pickV_cond_r, pickV_cond_rn, cp_nest1, cp_nest2, cp_nest3, cp_nest4, pickV_and, pickV_or, ↓ag_loadL, apL_mk, agQL_some, agL_mk, agL_ld1, agL_ld2, agL_ld3, agL_ld4, agL_ld5, agL_ld6, pLoad_agg ag27 sz27, cv_load, cp_load, rd_ne', ne_eq, not_false_eq_true, ne_1q2_0q0, ne_1q2_0q0.symm, rd_any, AVal.cells, setAt, List.set_cons_zero, List.set_cons_succ, cellsAt, List.getD_cons_zero, List.getD_cons_succ, Nat.zero_add, Nat.reduceAdd, lv_bool, lv_int, lv_str, lv_nilPtr, lv_ptr, lv_nilSlice, lv_slice, lv_nilFunc, lv_func, lv_nilIface, lv_iface, lv_nilMap, lv_agg, lv_tuple, allLive, Bool.and_true, decA, hlv]
  repeat (with_reducible refine And.intro ?_ ?_; · first | trivial | omega | (intro hg; simp only [Bool.and_eq_true, Bool.or_eq_true, Bool.not_eq_true', Bool.and_eq_false_iff, Bool.or_eq_false_iff, Bool.not_eq_false', decide_eq_true_eq, decide_eq_false_iff_not, eqNil] at hg; omega) )
  first
  | (refine aOps_yes (by rfl) ?_; refine aOps_callV (V := .int .i64 0) (by rfl) (by rfl) ((c_Check w₀ _ (intD n) il).val (by rw [iv])) ?_)
  | (refine aOps_gcall (V := .int .i64 0) (f := _) (cap := _) (xs := _) rfl (fun hg => ⟨rfl, ?_⟩) (fun hg => (c_Check w₀ _ (intD n) il).val (by rw [iv])) ?_; · (simp (decide := true) only [gv, nthDst, Slots.get, if_true, if_false, guardB_bool_true, guardB_bool_false, guardB_cond, Bool.not_not] at hg; simp (decide := true) only [evs, ev, Slots.get, if_true, if_false, hg, condV_true, List.append_nil, List.map_cons, List.map_nil, absV, absS] <;> try rfl))
  simp (decide := true) only [aOps_nil, vOps_nil, fOps_nil, kOps_nil, ev, absV, absS, putD, Slots.put, Slots.get, Slots.keep, if_true, if_false, List.contains_cons, List.contains_nil, true_and, and_true, gv, nthDst, guardB_bool_true, guardB_bool_false, guardB_cond, ↓ag_binOp, pop_binOp, agP, agQ_some, gKnown_bool, gKnown_cond, cv_cv, implies_true, Bool.not_not, decide_true, decide_false, Bool.not_false, Bool.not_true, condV_true, condV_false, forall_const, false_implies, pickV_true, pickV_false, Bool.and_true, Bool.and_false, Bool.true_and, Bool.false_and, Bool.or_true, Bool.or_false, Bool.true_or, Bool.false_or, isNilC_int, cond_false, cv_binl, cv_binr, cp_binl, cp_binr, pBinX_int, pI_neq, ↓ap_pick, pop_pick, pPick_bool, pickV_cond_l, pickV_cond_r, pickV_cond_rn, cp_nest1, cp_nest2, cp_nest3, cp_nest4, pickV_and, pickV_or, ↓ap_move, pop_move, ↓ag_loadL, apL_mk, agQL_some, agL_mk, agL_ld1, agL_ld2, agL_ld3, agL_ld4, agL_ld5, agL_ld6, pLoad_agg ag27 sz27, cv_load, cp_load, rd_ne', ne_eq, not_false_eq_true, ne_1q2_0q0, ne_1q2_0q0.symm, rd_any, AVal.cells, setAt, List.set_cons_zero, List.set_cons_succ, cellsAt, List.getD_cons_zero, List.getD_cons_succ, Nat.zero_add, Nat.reduceAdd, lv_bool, lv_int, lv_str, lv_nilPtr, lv_ptr, lv_nilSlice, lv_slice, lv_nilFunc, lv_func, lv_nilIface, lv_iface, lv_nilMap, lv_agg, lv_tuple, allLive, Bool.and_true, decA, hlv]
  repeat (with_reducible refine And.intro ?_ ?_; · first | trivial | omega | (intro hg; simp only [Bool.and_eq_true, Bool.or_eq_true, Bool.not_eq_true', Bool.and_eq_false_iff, Bool.or_eq_false_iff, Bool.not_eq_false', decide_eq_true_eq, decide_eq_false_iff_not, eqNil] at hg; omega) )
  first
  | (refine aOps_yes (by rfl) ?_; refine aOps_callV (V := .str (Lib.itoa n)) (by rfl) (by rfl) ((c_Text w₀ _ (intD n) il).val (by rw [it])) ?_)
  | (refine aOps_gcall (V := .str (Lib.itoa n)) (f := _) (cap := _) (xs := _) rfl (fun hg => ⟨rfl, ?_⟩) (fun hg => (c_Text w₀ _ (intD n) il).val (by rw [it])) ?_; · (simp (decide := true) only [gv, nthDst, Slots.get, if_true, if_false, guardB_bool_true, guardB_bool_false, guardB_cond, Bool.not_not] at hg; simp (decide := true) only [evs, ev, Slots.get, if_true, if_false, hg, condV_true, List.append_nil, List.map_cons, List.map_nil, absV, absS] <;> try rfl))
  simp (decide := true) only [aOps_nil, vOps_nil, fOps_nil, kOps_nil, ev, absV, absS, putD, Slots.put, Slots.get, Slots.keep, if_true, if_false, List.contains_cons, List.contains_nil, true_and, and_true, gv, nthDst, guardB_bool_true, guardB_bool_false, guardB_cond, ↓ag_move, pop_move, agP, agQ_some, gKnown_bool, gKnown_cond, cv_cv, implies_true, Bool.not_not, decide_true, decide_false, Bool.not_false, Bool.not_true, condV_true, condV_false, forall_const, false_implies, pickV_true, pickV_false, Bool.and_true, Bool.and_false, Bool.true_and, Bool.false_and, Bool.or_true, Bool.or_false, Bool.true_or, Bool.false_or, rd_ne', ne_eq, not_false_eq_true, ne_1q2_0q0, ne_1q2_0q0.symm, rd_any, AVal.cells, setAt, List.set_cons_zero, List.set_cons_succ, cellsAt, List.getD_cons_zero, List.getD_cons_succ, Nat.zero_add, Nat.reduceAdd, lv_bool, lv_int, lv_str, lv_nilPtr, lv_ptr, lv_nilSlice, lv_slice, lv_nilFunc, lv_func, lv_nilIface, lv_iface, lv_nilMap, lv_agg, lv_tuple, allLive, Bool.and_true, decA, hlv]
  repeat (with_reducible refine And.intro ?_ ?_; · first | trivial | omega | (intro hg; simp only [Bool.and_eq_true, Bool.or_eq_true, Bool.not_eq_true', Bool.and_eq_false_iff, Bool.or_eq_false_iff, Bool.not_eq_false', decide_eq_true_eq, decide_eq_false_iff_not, eqNil] at hg; omega) )
  first
  | (refine aOps_yes (by rfl) ?_; refine aOps_callV (V := .str (Lib.itoa n)) (by rfl) (by rfl) (c_formatInt w₀ ht _ n h0 h1) ?_)
  | (refine aOps_gcall (V := .str (Lib.itoa n)) (f := _) (cap := _) (xs := _) rfl (fun hg => ⟨rfl, ?_⟩) (fun hg => c_formatInt w₀ ht _ n h0 h1) ?_; · (simp (decide := true) only [gv, nthDst, Slots.get, if_true, if_false, guardB_bool_true, guardB_bool_false, guardB_cond, Bool.not_not] at hg; simp (decide := true) only [evs, ev, Slots.get, if_true, if_false, hg, condV_true, List.append_nil, List.map_cons, List.map_nil, absV, absS] <;> try rfl))
  simp (decide := true) only [aOps_nil, vOps_nil, fOps_nil, kOps_nil, ev, absV, absS, putD, Slots.put, Slots.get, Slots.keep, if_true, if_false, List.contains_cons, List.contains_nil, true_and, and_true, gv, nthDst, guardB_bool_true, guardB_bool_false, guardB_cond, ↓ag_binOp, pop_binOp, agP, agQ_some, gKnown_bool, gKnown_cond, cv_cv, implies_true, Bool.not_not, decide_true, decide_false, Bool.not_false, Bool.not_true, condV_true, condV_false, forall_const, false_implies, pickV_true, pickV_false, Bool.and_true, Bool.and_false, Bool.true_and, Bool.false_and, Bool.or_true, Bool.or_false, Bool.true_or, Bool.false_or, isNilC_tmp, cond_false, cv_binl, cv_binr, cp_binl, cp_binr, pBinX_str, pS_neq, ↓ap_pick, pop_pick, pPick_bool, pickV_cond_l, pickV_cond_r, pickV_cond_rn, cp_nest1, cp_nest2, cp_nest3, cp_nest4, pickV_and, pickV_or, rd_ne', ne_eq, not_false_eq_true, ne_1q2_0q0, ne_1q2_0q0.symm, rd_any, AVal.cells, setAt, List.set_cons_zero, List.set_cons_succ, cellsAt, List.getD_cons_zero, List.getD_cons_succ, Nat.zero_add, Nat.reduceAdd, lv_bool, lv_int, lv_str, lv_nilPtr, lv_ptr, lv_nilSlice, lv_slice, lv_nilFunc, lv_func, lv_nilIface, lv_iface, lv_nilMap, lv_agg, lv_tuple, allLive, Bool.and_true, decA, hlv]
  repeat (with_reducible refine And.intro ?_ ?_; · first | trivial | omega | (intro hg; simp only [Bool.and_eq_true, Bool.or_eq_true, Bool.not_eq_true', Bool.and_eq_false_iff, Bool.or_eq_false_iff, Bool.not_eq_false', decide_eq_true_eq, decide_eq_false_iff_not, eqNil] at hg; omega) )
  apply hK; clear hK K
  refine awp_cond (b := _) rfl (fun hb1 => ?_) (fun hb1 => ?_)
  · exact absurd hb1 (by decide)
  · try simp only [decide_eq_true_eq, decide_eq_false_iff_not, Bool.not_eq_true', Bool.not_eq_false', Bool.and_eq_true, Bool.and_eq_false_iff, Bool.or_eq_true, Bool.or_eq_false_iff, Bool.true_eq, Bool.false_eq, reduceCtorEq] at hb1
    refine awp_skip ?_
    change Awp _ _ _ _ _ _ _
    -- region 5  law.go:400
    refine awp_rseq [8] (by rfl) fun K hK => ?_
    simp (decide := true) only [aOps_nil, vOps_nil, fOps_nil, kOps_nil, ev, absV, absS, putD, Slots.put, Slots.get, Slots.keep, if_true, if_false, List.contains_cons, List.contains_nil, true_and, and_true, ↓ap_loadL, apL_mk, pLoad_agg ag24 sz24, rd_ne', ne_eq, not_false_eq_true, ne_1q2_0q0, ne_1q2_0q0.symm, rd_any, AVal.cells, setAt, List.set_cons_zero, List.set_cons_succ, cellsAt, List.getD_cons_zero, List.getD_cons_succ, Nat.zero_add, Nat.reduceAdd, lv_bool, lv_int, lv_str, lv_nilPtr, lv_ptr, lv_nilSlice, lv_slice, lv_nilFunc, lv_func, lv_nilIface, lv_iface, lv_nilMap, lv_agg, lv_tuple, allLive, Bool.and_true, decA, hlv]
    repeat (with_reducible refine And.intro ?_ ?_; · first | trivial | omega | (intro hg; simp only [Bool.and_eq_true, Bool.or_eq_true, Bool.not_eq_true', Bool.and_eq_false_iff, Bool.or_eq_false_iff, Bool.not_eq_false', decide_eq_true_eq, decide_eq_false_iff_not, eqNil] at hg; omega) )
    refine aOps_callV (V := decA d) (by rfl) (by rfl) ((c_ofN w₀ _ neg v bs sc (hb.mono (by repeat (first | exact Sub.refl _ | refine Sub.trans_set ?_ (by assumption)))) hbl).val (by rw [hd])) ?_
    refine aOps_alloc ze27 (cs := [.bool false, .str [], .int .i64 0]) (by rfl) fun k5q2 hk5q2 => ?_
    have ne_5q2_0q0 : k5q2 ≠ k0q0 := by simp only [AHeap.set_none] at hk5q2; simp only [hk5q2, ne_eq, not_false_eq_true]
    have ne_5q2_1q2 : k5q2 ≠ k1q2 := by simp only [AHeap.set_none] at hk5q2; simp only [hk5q2, ne_eq, not_false_eq_true]
    try have hf_5q2 : h k5q2 = none := by first | assumption | (simp only [AHeap.set_none] at hk5q2; simp only [hk5q2])
    refine aOps_store (by rfl) (by rfl) (by repeat (first | exact AHeap.set_same _ _ _ | assumption | refine (AHeap.set_ne _ _ (by first | assumption | exact Ne.symm (by assumption))).trans ?_)) sz27 (by rfl) (by rfl) (by first | exact Nat.le_refl _ | decide | (simp; done) | (simp; omega)) (Nat.zero_le _) (by rfl) ?_
    simp only [AHeap.set_set, setAt, AVal.cells, List.set_cons_zero, List.set_cons_succ, Nat.zero_add, Nat.reduceAdd]
    simp (decide := true) only [aOps_nil, vOps_nil, fOps_nil, kOps_nil, ev, absV, absS, putD, Slots.put, Slots.get, Slots.keep, if_true, if_false, List.contains_cons, List.contains_nil, true_and, and_true, rd_ne', ne_eq, not_false_eq_true, ne_1q2_0q0, ne_1q2_0q0.symm, ne_5q2_0q0, ne_5q2_0q0.symm, ne_5q2_1q2, ne_5q2_1q2.symm, rd_any, AVal.cells, setAt, List.set_cons_zero, List.set_cons_succ, cellsAt, List.getD_cons_zero, List.getD_cons_succ, Nat.zero_add, Nat.reduceAdd, lv_bool, lv_int, lv_str, lv_nilPtr, lv_ptr, lv_nilSlice, lv_slice, lv_nilFunc, lv_func, lv_nilIface, lv_iface, lv_nilMap, lv_agg, lv_tuple, allLive, Bool.and_true, decA, hlv]
    repeat (with_reducible refine And.intro ?_ ?_; · first | trivial | omega | (intro hg; simp only [Bool.and_eq_true, Bool.or_eq_true, Bool.not_eq_true', Bool.and_eq_false_iff, Bool.or_eq_false_iff, Bool.not_eq_false', decide_eq_true_eq, decide_eq_false_iff_not, eqNil] at hg; omega) )
    apply hK; clear hK K
    -- region 6  law.go:401
    refine awp_rseq [8, 9, 10] (by rfl) fun K hK => ?_
    simp (decide := true) only [aOps_nil, vOps_nil, fOps_nil, kOps_nil, ev, absV, absS, putD, Slots.put, Slots.get, Slots.keep, if_true, if_false, List.contains_cons, List.contains_nil, true_and, and_true, ↓ap_loadL, apL_mk, pLoad_agg ag27 sz27, rd_ne', ne_eq, not_false_eq_true, ne_1q2_0q0, ne_1q2_0q0.symm, ne_5q2_0q0, ne_5q2_0q0.symm, ne_5q2_1q2, ne_5q2_1q2.symm, rd_any, AVal.cells, setAt, List.set_cons_zero, List.set_cons_succ, cellsAt, List.getD_cons_zero, List.getD_cons_succ, Nat.zero_add, Nat.reduceAdd, lv_bool, lv_int, lv_str, lv_nilPtr, lv_ptr, lv_nilSlice, lv_slice, lv_nilFunc, lv_func, lv_nilIface, lv_iface, lv_nilMap, lv_agg, lv_tuple, allLive, Bool.and_true, decA, hlv]
    repeat (with_reducible refine And.intro ?_ ?_; · first | trivial | omega | (intro hg; simp only [Bool.and_eq_true, Bool.or_eq_true, Bool.not_eq_true', Bool.and_eq_false_iff, Bool.or_eq_false_iff, Bool.not_eq_false', decide_eq_true_eq, decide_eq_false_iff_not, eqNil] at hg; omega) )
    refine aOps_callV (V := .tuple [.int .i64 m, .int .i64 e]) (by rfl) (by rfl) ((c_ToInt w₀ he _ d hdl).val (by rw [hme])) ?_
    simp (decide := true) only [aOps_nil, vOps_nil, fOps_nil, kOps_nil, ev, absV, absS, putD, Slots.put, Slots.get, Slots.keep, if_true, if_false, List.contains_cons, List.contains_nil, true_and, and_true, ↓ap_move, pop_move, ↓ap_extract, pop_extract, pExt_tuple, List.length_cons, List.length_nil, List.getD_cons_zero, List.getD_cons_succ, ↓ap_assign, pop_assign, rd_ne', ne_eq, not_false_eq_true, ne_1q2_0q0, ne_1q2_0q0.symm, ne_5q2_0q0, ne_5q2_0q0.symm, ne_5q2_1q2, ne_5q2_1q2.symm, rd_any, AVal.cells, setAt, List.set_cons_zero, List.set_cons_succ, cellsAt, List.getD_cons_zero, List.getD_cons_succ, Nat.zero_add, Nat.reduceAdd, lv_bool, lv_int, lv_str, lv_nilPtr, lv_ptr, lv_nilSlice, lv_slice, lv_nilFunc, lv_func, lv_nilIface, lv_iface, lv_nilMap, lv_agg, lv_tuple, allLive, Bool.and_true, decA, hlv]
    repeat (with_reducible refine And.intro ?_ ?_; · first | trivial | omega | (intro hg; simp only [Bool.and_eq_true, Bool.or_eq_true, Bool.not_eq_true', Bool.and_eq_false_iff, Bool.or_eq_false_iff, Bool.not_eq_false', decide_eq_true_eq, decide_eq_false_iff_not, eqNil] at hg; omega) )
    apply hK; clear hK K
    refine awp_seq ?_
    refine awp_block ?_
    -- region 7  law.go:403
    refine awp_rseq [8, 9, 10, 44] (by rfl) fun K hK => ?_
    simp (decide := true) only [aOps_nil, vOps_nil, fOps_nil, kOps_nil, ev, absV, absS, putD, Slots.put, Slots.get, Slots.keep, if_true, if_false, List.contains_cons, List.contains_nil, true_and, and_true, ↓ap_fieldAddr, pop_fieldAddr, fa27_2, ↓ap_loadL, apL_mk, pLoad_one ag3, ↓ap_binOp, pop_binOp, isNilC_int, cond_false, pBinX_int, pI_gtr, ↓ap_assign, pop_assign, rd_ne', ne_eq, not_false_eq_true, ne_1q2_0q0, ne_1q2_0q0.symm, ne_5q2_0q0, ne_5q2_0q0.symm, ne_5q2_1q2, ne_5q2_1q2.symm, rd_any, AVal.cells, setAt, List.set_cons_zero, List.set_cons_succ, cellsAt, List.getD_cons_zero, List.getD_cons_succ, Nat.zero_add, Nat.reduceAdd, lv_bool, lv_int, lv_str, lv_nilPtr, lv_ptr, lv_nilSlice, lv_slice, lv_nilFunc, lv_func, lv_nilIface, lv_iface, lv_nilMap, lv_agg, lv_tuple, allLive, Bool.and_true, decA, hlv]
    repeat (with_reducible refine And.intro ?_ ?_; · first | trivial | omega | (intro hg; simp only [Bool.and_eq_true, Bool.or_eq_true, Bool.not_eq_true', Bool.and_eq_false_iff, Bool.or_eq_false_iff, Bool.not_eq_false', decide_eq_true_eq, decide_eq_false_iff_not, eqNil] at hg; omega) )
    apply hK; clear hK K
    refine awp_cond (b := _) rfl (fun hb2 => ?_) (fun hb2 => ?_)
    · try simp only [decide_eq_true_eq, decide_eq_false_iff_not, Bool.not_eq_true', Bool.not_eq_false', Bool.and_eq_true, Bool.and_eq_false_iff, Bool.or_eq_true, Bool.or_eq_false_iff, Bool.true_eq, Bool.false_eq, reduceCtorEq] at hb2
      -- region 8  law.go:404
      refine awp_rseq [4] (by rfl) fun K hK => ?_
      simp (decide := true) only [aOps_nil, vOps_nil, fOps_nil, kOps_nil, ev, absV, absS, putD, Slots.put, Slots.get, Slots.keep, if_true, if_false, List.contains_cons, List.contains_nil, true_and, and_true, ↓ap_move, pop_move, ↓ap_binOp, pop_binOp, isNilC_int, cond_false, pBinX_int, pI_eql, ↓ag_move, agP, agQ_some, gv, nthDst, gKnown_bool, gKnown_cond, guardB_cond, guardB_bool_true, guardB_bool_false, cv_cv, implies_true, Bool.not_not, decide_true, decide_false, Bool.not_false, Bool.not_true, condV_true, condV_false, forall_const, false_implies, pickV_true, pickV_false, Bool.and_true, Bool.and_false, Bool.true_and, Bool.false_and, Bool.or_true, Bool.or_false, Bool.true_or, Bool.false_or, ↓ag_binOp, cv_binl, cv_binr, cp_binl, cp_binr, ↓ap_pick, pop_pick, pPick_bool, pickV_cond_l, pickV_cond_r, pickV_cond_rn, cp_nest1, cp_nest2, cp_nest3, cp_nest4, pickV_and, pickV_or, rd_ne', ne_eq, not_false_eq_true, ne_1q2_0q0, ne_1q2_0q0.symm, ne_5q2_0q0, ne_5q2_0q0.symm, ne_5q2_1q2, ne_5q2_1q2.symm, rd_any, AVal.cells, setAt, List.set_cons_zero, List.set_cons_succ, cellsAt, List.getD_cons_zero, List.getD_cons_succ, Nat.zero_add, Nat.reduceAdd, lv_bool, lv_int, lv_str, lv_nilPtr, lv_ptr, lv_nilSlice, lv_slice, lv_nilFunc, lv_func, lv_nilIface, lv_iface, lv_nilMap, lv_agg, lv_tuple, allLive, Bool.and_true, decA, hlv]
      repeat (with_reducible refine And.intro ?_ ?_; · first | trivial | omega | (intro hg; simp only [Bool.and_eq_true, Bool.or_eq_true, Bool.not_eq_true', Bool.and_eq_false_iff, Bool.or_eq_false_iff, Bool.not_eq_false', decide_eq_true_eq, decide_eq_false_iff_not, eqNil] at hg; omega) )
      first
      | (refine aOps_yes (by rfl) ?_; refine aOps_callV (V := .bool true) (by rfl) (by rfl) (c_lives12 w₀ ht he _) ?_)
      | (refine aOps_gcall (V := .bool true) (f := _) (cap := _) (xs := _) rfl (fun hg => ⟨rfl, ?_⟩) (fun hg => c_lives12 w₀ ht he _) ?_; · (simp (decide := true) only [gv, nthDst, Slots.get, if_true, if_false, guardB_bool_true, guardB_bool_false, guardB_cond, Bool.not_not] at hg; simp (decide := true) only [evs, ev, Slots.get, if_true, if_false, hg, condV_true, List.append_nil, List.map_cons, List.map_nil, absV, absS] <;> try rfl))
      simp (decide := true) only [aOps_nil, vOps_nil, fOps_nil, kOps_nil, ev, absV, absS, putD, Slots.put, Slots.get, Slots.keep, if_true, if_false, List.contains_cons, List.contains_nil, true_and, and_true, gv, nthDst, guardB_bool_true, guardB_bool_false, guardB_cond, ↓ap_pick, pop_pick, pPick_bool, pickV_cond_l, pickV_cond_r, pickV_cond_rn, cp_nest1, cp_nest2, cp_nest3, cp_nest4, pickV_and, pickV_or, ↓ap_assign, pop_assign, rd_ne', ne_eq, not_false_eq_true, ne_1q2_0q0, ne_1q2_0q0.symm, ne_5q2_0q0, ne_5q2_0q0.symm, ne_5q2_1q2, ne_5q2_1q2.symm, rd_any, AVal.cells, setAt, List.set_cons_zero, List.set_cons_succ, cellsAt, List.getD_cons_zero, List.getD_cons_succ, Nat.zero_add, Nat.reduceAdd, lv_bool, lv_int, lv_str, lv_nilPtr, lv_ptr, lv_nilSlice, lv_slice, lv_nilFunc, lv_func, lv_nilIface, lv_iface, lv_nilMap, lv_agg, lv_tuple, allLive, Bool.and_true, decA, hlv]
      repeat (with_reducible refine And.intro ?_ ?_; · first | trivial | omega | (intro hg; simp only [Bool.and_eq_true, Bool.or_eq_true, Bool.not_eq_true', Bool.and_eq_false_iff, Bool.or_eq_false_iff, Bool.not_eq_false', decide_eq_true_eq, decide_eq_false_iff_not, eqNil] at hg; omega) )
      apply hK; clear hK K
      refine awp_ret ?_
      try simp only [thenA_ret, inBlockA_ret]
      refine retA_ret h (by repeat (first | exact Sub.refl _ | refine Sub.trans_set ?_ (by assumption))) (resPre_tmp (resPre_nil)) ?_
      simp (decide := true) only [aOps_nil, vOps_nil, fOps_nil, kOps_nil, ev, absV, absS, putD, Slots.put, Slots.get, Slots.keep, if_true, if_false, List.contains_cons, List.contains_nil, true_and, and_true, resOf_one, rd_ne', ne_eq, not_false_eq_true, ne_1q2_0q0, ne_1q2_0q0.symm, ne_5q2_0q0, ne_5q2_0q0.symm, ne_5q2_1q2, ne_5q2_1q2.symm, rd_any, AVal.cells, setAt, List.set_cons_zero, List.set_cons_succ, cellsAt, List.getD_cons_zero, List.getD_cons_succ, Nat.zero_add, Nat.reduceAdd, lv_bool, lv_int, lv_str, lv_nilPtr, lv_ptr, lv_nilSlice, lv_slice, lv_nilFunc, lv_func, lv_nilIface, lv_iface, lv_nilMap, lv_agg, lv_tuple, allLive, Bool.and_true, decA, hlv]
      have q : toIntE d = (0, 12) := by rw [toIntE, if_neg (fun q => q hv), if_pos hb2]
      rw [hme] at q
      obtain ⟨q1, q2⟩ := Prod.mk.inj q
      rw [q1, q2]; rfl
    · try simp only [decide_eq_true_eq, decide_eq_false_iff_not, Bool.not_eq_true', Bool.not_eq_false', Bool.and_eq_true, Bool.and_eq_false_iff, Bool.or_eq_true, Bool.or_eq_false_iff, Bool.true_eq, Bool.false_eq, reduceCtorEq] at hb2
      -- region 9  law.go:405
      refine awp_rseq [8, 9, 10, 57] (by rfl) fun K hK => ?_
      simp (decide := true) only [aOps_nil, vOps_nil, fOps_nil, kOps_nil, ev, absV, absS, putD, Slots.put, Slots.get, Slots.keep, if_true, if_false, List.contains_cons, List.contains_nil, true_and, and_true, ↓ap_move, pop_move, ↓ap_binOp, pop_binOp, isNilC_int, cond_false, pBinX_int, pI_eql, ↓ap_assign, pop_assign, rd_ne', ne_eq, not_false_eq_true, ne_1q2_0q0, ne_1q2_0q0.symm, ne_5q2_0q0, ne_5q2_0q0.symm, ne_5q2_1q2, ne_5q2_1q2.symm, rd_any, AVal.cells, setAt, List.set_cons_zero, List.set_cons_succ, cellsAt, List.getD_cons_zero, List.getD_cons_succ, Nat.zero_add, Nat.reduceAdd, lv_bool, lv_int, lv_str, lv_nilPtr, lv_ptr, lv_nilSlice, lv_slice, lv_nilFunc, lv_func, lv_nilIface, lv_iface, lv_nilMap, lv_agg, lv_tuple, allLive, Bool.and_true, decA, hlv]
      repeat (with_reducible refine And.intro ?_ ?_; · first | trivial | omega | (intro hg; simp only [Bool.and_eq_true, Bool.or_eq_true, Bool.not_eq_true', Bool.and_eq_false_iff, Bool.or_eq_false_iff, Bool.not_eq_false', decide_eq_true_eq, decide_eq_false_iff_not, eqNil] at hg; omega) )
      apply hK; clear hK K
      refine awp_cond (b := _) rfl (fun hb3 => ?_) (fun hb3 => ?_)
      · try simp only [decide_eq_true_eq, decide_eq_false_iff_not, Bool.not_eq_true', Bool.not_eq_false', Bool.and_eq_true, Bool.and_eq_false_iff, Bool.or_eq_true, Bool.or_eq_false_iff, Bool.true_eq, Bool.false_eq, reduceCtorEq] at hb3
        -- region 10  law.go:407
        refine awp_rseq [4] (by rfl) fun K hK => ?_
        simp (decide := true) only [aOps_nil, vOps_nil, fOps_nil, kOps_nil, ev, absV, absS, putD, Slots.put, Slots.get, Slots.keep, if_true, if_false, List.contains_cons, List.contains_nil, true_and, and_true, ↓ap_move, pop_move, ↓ap_binOp, pop_binOp, isNilC_int, cond_false, pBinX_int, pI_eql, ↓ag_fieldAddr, pop_fieldAddr, agP, agQ_some, gv, nthDst, gKnown_bool, gKnown_cond, guardB_cond, guardB_bool_true, guardB_bool_false, cv_cv, implies_true, Bool.not_not, decide_true, decide_false, Bool.not_false, Bool.not_true, condV_true, condV_false, forall_const, false_implies, pickV_true, pickV_false, Bool.and_true, Bool.and_false, Bool.true_and, Bool.false_and, Bool.or_true, Bool.or_false, Bool.true_or, Bool.false_or, fa27_1, cv_fieldAddr, cp_fieldAddr, ↓ag_loadL, apL_mk, agQL_some, agL_mk, agL_ld1, agL_ld2, agL_ld3, agL_ld4, agL_ld5, agL_ld6, pLoad_one ag9, cv_load, cp_load, ↓ag_len, pop_len, pLen_str Tryz.underlying9, cv_len, cp_len, ↓ag_binOp, cv_binl, cv_binr, cp_binl, cp_binr, pI_gtr, ↓ag_move, isNilC_str, pBinX_str, pS_gtr, pS_eql, fa27_0, pLoad_one ag4, ↓ag_unOp, pop_unOp, pU_not, cv_un, cp_un, ↓ag_pick, pop_pick, pPick_bool, pickV_cond_l, pickV_cond_r, pickV_cond_rn, cp_nest1, cp_nest2, cp_nest3, cp_nest4, pickV_and, pickV_or, cv_pick, cp_pick, ↓ap_pick, rd_ne', ne_eq, not_false_eq_true, ne_1q2_0q0, ne_1q2_0q0.symm, ne_5q2_0q0, ne_5q2_0q0.symm, ne_5q2_1q2, ne_5q2_1q2.symm, rd_any, AVal.cells, setAt, List.set_cons_zero, List.set_cons_succ, cellsAt, List.getD_cons_zero, List.getD_cons_succ, Nat.zero_add, Nat.reduceAdd, lv_bool, lv_int, lv_str, lv_nilPtr, lv_ptr, lv_nilSlice, lv_slice, lv_nilFunc, lv_func, lv_nilIface, lv_iface, lv_nilMap, lv_agg, lv_tuple, allLive, Bool.and_true, decA, hlv]
        try simp (disch := omega) only [wrap_i64, wrap_u8]
        repeat (with_reducible refine And.intro ?_ ?_; · first | trivial | omega | (intro hg; simp only [Bool.and_eq_true, Bool.or_eq_true, Bool.not_eq_true', Bool.and_eq_false_iff, Bool.or_eq_false_iff, Bool.not_eq_false', decide_eq_true_eq, decide_eq_false_iff_not, eqNil] at hg; omega) )
        first
        | (refine aOps_yes (by rfl) ?_; refine aOps_callV (V := .bool true) (by rfl) (by rfl) (c_lives12 w₀ ht he _) ?_)
        | (refine aOps_gcall (V := .bool true) (f := _) (cap := _) (xs := _) rfl (fun hg => ⟨rfl, ?_⟩) (fun hg => c_lives12 w₀ ht he _) ?_; · (simp (decide := true) only [gv, nthDst, Slots.get, if_true, if_false, guardB_bool_true, guardB_bool_false, guardB_cond, Bool.not_not] at hg; simp (decide := true) only [evs, ev, Slots.get, if_true, if_false, hg, condV_true, List.append_nil, List.map_cons, List.map_nil, absV, absS] <;> try rfl))
        simp (decide := true) only [aOps_nil, vOps_nil, fOps_nil, kOps_nil, ev, absV, absS, putD, Slots.put, Slots.get, Slots.keep, if_true, if_false, List.contains_cons, List.contains_nil, true_and, and_true, gv, nthDst, guardB_bool_true, guardB_bool_false, guardB_cond, ↓ap_pick, pop_pick, pPick_bool, pickV_cond_l, pickV_cond_r, pickV_cond_rn, cp_nest1, cp_nest2, cp_nest3, cp_nest4, pickV_and, pickV_or, ↓ap_assign, pop_assign, rd_ne', ne_eq, not_false_eq_true, ne_1q2_0q0, ne_1q2_0q0.symm, ne_5q2_0q0, ne_5q2_0q0.symm, ne_5q2_1q2, ne_5q2_1q2.symm, rd_any, AVal.cells, setAt, List.set_cons_zero, List.set_cons_succ, cellsAt, List.getD_cons_zero, List.getD_cons_succ, Nat.zero_add, Nat.reduceAdd, lv_bool, lv_int, lv_str, lv_nilPtr, lv_ptr, lv_nilSlice, lv_slice, lv_nilFunc, lv_func, lv_nilIface, lv_iface, lv_nilMap, lv_agg, lv_tuple, allLive, Bool.and_true, decA, hlv]
        repeat (with_reducible refine And.intro ?_ ?_; · first | trivial | omega | (intro hg; simp only [Bool.and_eq_true, Bool.or_eq_true, Bool.not_eq_true', Bool.and_eq_false_iff, Bool.or_eq_false_iff, Bool.not_eq_false', decide_eq_true_eq, decide_eq_false_iff_not, eqNil] at hg; omega) )
        apply hK; clear hK K
        refine awp_ret ?_
        try simp only [thenA_ret, inBlockA_ret]
        refine retA_ret h (by repeat (first | exact Sub.refl _ | refine Sub.trans_set ?_ (by assumption))) (resPre_tmp (resPre_nil)) ?_
        simp (decide := true) only [aOps_nil, vOps_nil, fOps_nil, kOps_nil, ev, absV, absS, putD, Slots.put, Slots.get, Slots.keep, if_true, if_false, List.contains_cons, List.contains_nil, true_and, and_true, resOf_one, rd_ne', ne_eq, not_false_eq_true, ne_1q2_0q0, ne_1q2_0q0.symm, ne_5q2_0q0, ne_5q2_0q0.symm, ne_5q2_1q2, ne_5q2_1q2.symm, rd_any, AVal.cells, setAt, List.set_cons_zero, List.set_cons_succ, cellsAt, List.getD_cons_zero, List.getD_cons_succ, Nat.zero_add, Nat.reduceAdd, lv_bool, lv_int, lv_str, lv_nilPtr, lv_ptr, lv_nilSlice, lv_slice, lv_nilFunc, lv_func, lv_nilIface, lv_iface, lv_nilMap, lv_agg, lv_tuple, allLive, Bool.and_true, decA, hlv]
        obtain ⟨q1, q2⟩ := toInt_big hv hb2 (by rw [hme]; exact hb3)
        rw [hme] at q1
        simp only at q1
        rw [q1]
        exact congrArg AVal.bool q2
      · try simp only [decide_eq_true_eq, decide_eq_false_iff_not, Bool.not_eq_true', Bool.not_eq_false', Bool.and_eq_true, Bool.and_eq_false_iff, Bool.or_eq_true, Bool.or_eq_false_iff, Bool.true_eq, Bool.false_eq, reduceCtorEq] at hb3
        obtain ⟨i1, i2, i3⟩ := toInt_ok hv (by simpa using hb2) (by rw [hme]; simpa using hb3)
        have itx := text_int hv (by simpa using hb2)
        rw [hme] at i1
        obtain ⟨m1, m2⟩ := Prod.mk.inj i1
        rw [← m1] at i2 i3 itx
        refine awp_skip ?_
        change Awp _ _ _ _ _ _ _
        -- region 11  law.go:409
        refine awp_dseq_any [4] mixed (by kernel_rfl) (by rfl) fun K hK => ?_
        simp (decide := true) only [aOps_nil, vOps_nil, fOps_nil, kOps_nil, ev, absV, absS, putD, Slots.put, Slots.get, Slots.keep, if_true, if_false, List.contains_cons, List.contains_nil, true_and, and_true, ↓vp_move, pop_move, ↓vp_binOp, pop_binOp, isNilC_int, cond_false, pBinX_int, pI_eql, ↓vg_move, vgP, vgQ_some, gv, nthDst, gKnown_bool, gKnown_cond, guardB_cond, guardB_bool_true, guardB_bool_false, cv_cv, implies_true, Bool.not_not, decide_true, decide_false, Bool.not_false, Bool.not_true, condV_true, condV_false, forall_const, false_implies, pickV_true, pickV_false, Bool.and_true, Bool.and_false, Bool.true_and, Bool.false_and, Bool.or_true, Bool.or_false, Bool.true_or, Bool.false_or, rd_ne', ne_eq, not_false_eq_true, ne_1q2_0q0, ne_1q2_0q0.symm, ne_5q2_0q0, ne_5q2_0q0.symm, ne_5q2_1q2, ne_5q2_1q2.symm, rd_any, AVal.cells, setAt, List.set_cons_zero, List.set_cons_succ, cellsAt, List.getD_cons_zero, List.getD_cons_succ, Nat.zero_add, Nat.reduceAdd, lv_bool, lv_int, lv_str, lv_nilPtr, lv_ptr, lv_nilSlice, lv_slice, lv_nilFunc, lv_func, lv_nilIface, lv_iface, lv_nilMap, lv_agg, lv_tuple, allLive, Bool.and_true, decA, hlv]
        repeat (with_reducible refine And.intro ?_ ?_; · first | trivial | omega | (intro hg; simp only [Bool.and_eq_true, Bool.or_eq_true, Bool.not_eq_true', Bool.and_eq_false_iff, Bool.or_eq_false_iff, Bool.not_eq_false', decide_eq_true_eq, decide_eq_false_iff_not, eqNil] at hg; omega) )
        refine vOps_gcall (V := .str (Lib.itoa m)) (f := _) (cap := _) (xs := _) rfl (fun hg => ⟨rfl, ?_⟩) (fun hg => c_formatInt w₀ ht _ m i2 i3) ?_
        · try simp (decide := true) only [gv, nthDst, Slots.get, if_true, if_false, guardB_bool_true, guardB_bool_false, guardB_cond, Bool.not_not] at hg
          simp (decide := true) only [evs, ev, Slots.get, if_true, if_false, hg, condV_true, List.append_nil, List.map_cons, List.map_nil, absV, absS] <;> try rfl
        simp (decide := true) only [aOps_nil, vOps_nil, fOps_nil, kOps_nil, ev, absV, absS, putD, Slots.put, Slots.get, Slots.keep, if_true, if_false, List.contains_cons, List.contains_nil, true_and, and_true, gv, nthDst, guardB_bool_true, guardB_bool_false, guardB_cond, ↓vg_load, pop_load, vgQ_some, pop_indexAddr, agL_ld1, agL_ld2, agL_ld3, agL_ld4, agL_ld5, agL_ld6, vgP, gKnown_bool, gKnown_cond, cv_cv, implies_true, Bool.not_not, decide_true, decide_false, Bool.not_false, Bool.not_true, condV_true, condV_false, forall_const, false_implies, pickV_true, pickV_false, Bool.and_true, Bool.and_false, Bool.true_and, Bool.false_and, Bool.or_true, Bool.or_false, Bool.true_or, Bool.false_or, pLoad_agg ag27 sz27, cv_load, cp_load, rd_ne', ne_eq, not_false_eq_true, ne_1q2_0q0, ne_1q2_0q0.symm, ne_5q2_0q0, ne_5q2_0q0.symm, ne_5q2_1q2, ne_5q2_1q2.symm, rd_any, AVal.cells, setAt, List.set_cons_zero, List.set_cons_succ, cellsAt, List.getD_cons_zero, List.getD_cons_succ, Nat.zero_add, Nat.reduceAdd, lv_bool, lv_int, lv_str, lv_nilPtr, lv_ptr, lv_nilSlice, lv_slice, lv_nilFunc, lv_func, lv_nilIface, lv_iface, lv_nilMap, lv_agg, lv_tuple, allLive, Bool.and_true, decA, hlv]
        repeat (with_reducible refine And.intro ?_ ?_; · first | trivial | omega | (intro hg; simp only [Bool.and_eq_true, Bool.or_eq_true, Bool.not_eq_true', Bool.and_eq_false_iff, Bool.or_eq_false_iff, Bool.not_eq_false', decide_eq_true_eq, decide_eq_false_iff_not, eqNil] at hg; omega) )
        refine vOps_gcall (V := .str (Lib.itoa m)) (f := _) (cap := _) (xs := _) rfl (fun hg => ⟨rfl, ?_⟩) (fun hg => (c_Text12 w₀ _ d hv).val (by rw [itx])) ?_
        · try simp (decide := true) only [gv, nthDst, Slots.get, if_true, if_false, guardB_bool_true, guardB_bool_false, guardB_cond, Bool.not_not] at hg
          simp (decide := true) only [evs, ev, Slots.get, if_true, if_false, hg, condV_true, List.append_nil, List.map_cons, List.map_nil, absV, absS] <;> try rfl
        simp (decide := true) only [aOps_nil, vOps_nil, fOps_nil, kOps_nil, ev, absV, absS, putD, Slots.put, Slots.get, Slots.keep, if_true, if_false, List.contains_cons, List.contains_nil, true_and, and_true, gv, nthDst, guardB_bool_true, guardB_bool_false, guardB_cond, ↓vg_binOp, pop_binOp, vgP, vgQ_some, gKnown_bool, gKnown_cond, cv_cv, implies_true, Bool.not_not, decide_true, decide_false, Bool.not_false, Bool.not_true, condV_true, condV_false, forall_const, false_implies, pickV_true, pickV_false, Bool.and_true, Bool.and_false, Bool.true_and, Bool.false_and, Bool.or_true, Bool.or_false, Bool.true_or, Bool.false_or, isNilC_tmp, cond_false, cv_binl, cv_binr, cp_binl, cp_binr, pBinX_str, pS_eql, ↓vp_pick, pop_pick, pPick_bool, pickV_cond_l, pickV_cond_r, pickV_cond_rn, cp_nest1, cp_nest2, cp_nest3, cp_nest4, pickV_and, pickV_or, ↓vp_move, pop_move, rd_ne', ne_eq, not_false_eq_true, ne_1q2_0q0, ne_1q2_0q0.symm, ne_5q2_0q0, ne_5q2_0q0.symm, ne_5q2_1q2, ne_5q2_1q2.symm, rd_any, AVal.cells, setAt, List.set_cons_zero, List.set_cons_succ, cellsAt, List.getD_cons_zero, List.getD_cons_succ, Nat.zero_add, Nat.reduceAdd, lv_bool, lv_int, lv_str, lv_nilPtr, lv_ptr, lv_nilSlice, lv_slice, lv_nilFunc, lv_func, lv_nilIface, lv_iface, lv_nilMap, lv_agg, lv_tuple, allLive, Bool.and_true, decA, hlv]
        repeat (with_reducible refine And.intro ?_ ?_; · first | trivial | omega | (intro hg; simp only [Bool.and_eq_true, Bool.or_eq_true, Bool.not_eq_true', Bool.and_eq_false_iff, Bool.or_eq_false_iff, Bool.not_eq_false', decide_eq_true_eq, decide_eq_false_iff_not, eqNil] at hg; omega) )
        refine vOps_gcall (V := .bool true) (f := _) (cap := _) (xs := _) rfl (fun hg => ⟨rfl, ?_⟩) (fun hg => c_lives12 w₀ ht he _) ?_
        · try simp (decide := true) only [gv, nthDst, Slots.get, if_true, if_false, guardB_bool_true, guardB_bool_false, guardB_cond, Bool.not_not] at hg
          simp (decide := true) only [evs, ev, Slots.get, if_true, if_false, hg, condV_true, List.append_nil, List.map_cons, List.map_nil, absV, absS] <;> try rfl
        simp (decide := true) only [aOps_nil, vOps_nil, fOps_nil, kOps_nil, ev, absV, absS, putD, Slots.put, Slots.get, Slots.keep, if_true, if_false, List.contains_cons, List.contains_nil, true_and, and_true, gv, nthDst, guardB_bool_true, guardB_bool_false, guardB_cond, ↓vp_pick, pop_pick, pPick_bool, pickV_cond_l, pickV_cond_r, pickV_cond_rn, cp_nest1, cp_nest2, cp_nest3, cp_nest4, pickV_and, pickV_or, ↓vp_assign, pop_assign, rd_ne', ne_eq, not_false_eq_true, ne_1q2_0q0, ne_1q2_0q0.symm, ne_5q2_0q0, ne_5q2_0q0.symm, ne_5q2_1q2, ne_5q2_1q2.symm, rd_any, AVal.cells, setAt, List.set_cons_zero, List.set_cons_succ, cellsAt, List.getD_cons_zero, List.getD_cons_succ, Nat.zero_add, Nat.reduceAdd, lv_bool, lv_int, lv_str, lv_nilPtr, lv_ptr, lv_nilSlice, lv_slice, lv_nilFunc, lv_func, lv_nilIface, lv_iface, lv_nilMap, lv_agg, lv_tuple, allLive, Bool.and_true, decA, hlv]
        repeat (with_reducible refine And.intro ?_ ?_; · first | trivial | omega | (intro hg; simp only [Bool.and_eq_true, Bool.or_eq_true, Bool.not_eq_true', Bool.and_eq_false_iff, Bool.or_eq_false_iff, Bool.not_eq_false', decide_eq_true_eq, decide_eq_false_iff_not, eqNil] at hg; omega) )
        apply hK; clear hK K
        refine awp_ret ?_
        try simp only [thenA_ret, inBlockA_ret]
        refine retA_ret h (by repeat (first | exact Sub.refl _ | refine Sub.trans_set ?_ (by assumption))) (resPre_tmp (resPre_nil)) ?_
        simp (decide := true) only [aOps_nil, vOps_nil, fOps_nil, kOps_nil, ev, absV, absS, putD, Slots.put, Slots.get, Slots.keep, if_true, if_false, List.contains_cons, List.contains_nil, true_and, and_true, resOf_one, rd_ne', ne_eq, not_false_eq_true, ne_1q2_0q0, ne_1q2_0q0.symm, ne_5q2_0q0, ne_5q2_0q0.symm, ne_5q2_1q2, ne_5q2_1q2.symm, rd_any, AVal.cells, setAt, List.set_cons_zero, List.set_cons_succ, cellsAt, List.getD_cons_zero, List.getD_cons_succ, Nat.zero_add, Nat.reduceAdd, lv_bool, lv_int, lv_str, lv_nilPtr, lv_ptr, lv_nilSlice, lv_slice, lv_nilFunc, lv_func, lv_nilIface, lv_iface, lv_nilMap, lv_agg, lv_tuple, allLive, Bool.and_true, decA, hlv]
        rw [m2]; simp
end Go.Proofs.YthiiakghjoeikaaGreatDoor
