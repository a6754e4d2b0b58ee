/-
  The examples of the chapter hold.
  Conditions: none.
-/
import Derived.Test.YthiiakghjoeikaaGreatDoorDcM
set_option linter.unusedSimpArgs false
set_option linter.unnecessarySimpa false
set_option linter.unusedVariables false
namespace Go.Proofs.YthiiakghjoeikaaGreatDoor
open Go.AM
open Go.Proofs
open Go.Dec
open Go.Lib (decDigits)
set_option maxRecDepth 100000

def pS (i : Nat) : List UInt8 := [[45, 48, 49, 50, 46, 53, 48], [46, 53], [53, 46], [45]].getD i []
def pD (i : Nat) : D := [⟨true, [49, 50, 53], 1⟩, ⟨false, [53], 1⟩, noD, noD].getD i noD
def pE (i : Nat) : Int := [0, 0, 4, 4].getD i 0
theorem ex_parse (i : Nat) (hi : i < 4) : parseE (pS i) = (pD i, pE i) := by
  match i, hi with
  | 0, _ => exact (show (_ : D × Int) = _ by kernel_rfl)
  | 1, _ => exact (show (_ : D × Int) = _ by kernel_rfl)
  | 2, _ => exact (show (_ : D × Int) = _ by kernel_rfl)
  | 3, _ => exact (show (_ : D × Int) = _ by kernel_rfl)
theorem ex_add : addE (canon false 1 1) (canon false 25 2) = (canon false 35 2, 0) := by kernel_rfl
theorem ex_sub : subE (canon false 1 0) (canon false 1 0) = (canon false 0 0, 0) := by kernel_rfl
theorem ex_mul : mulE (canon true 15 1) (canon false 4 1) = (canon true 6 1, 0) := by kernel_rfl
def exQ : D := ⟨false, List.replicate 30 54, 30⟩
theorem ex_div : divE (canon false 2 0) (canon false 3 0) = (exQ, 0) := by kernel_rfl
theorem ex_div0 : divE (canon false 1 0) (canon false 0 0) = (noD, 7) := by kernel_rfl
theorem ex_pow : powE (canon false 11 1) (canon false 3 0) = (canon false 1331 3, 0) := by kernel_rfl
theorem ex_cut1 : cutE (canon true 1257 2) 1 = (canon true 125 1, false, 0) := by kernel_rfl
theorem ex_cut2 : cutE (canon false 1250 0) (-2) = (canon false 1200 0, false, 0) := by kernel_rfl
theorem ex_text : textE exQ = [48, 46, 54, 54, 54, 54, 54, 54, 54, 54, 54, 54, 54, 54, 54, 54, 54, 54, 54, 54, 54, 54, 54, 54, 54, 54, 54, 54, 54, 54, 54, 54] := by kernel_rfl
theorem canon_lenD (neg : Bool) (n k : Nat) (hn : n < 10 ^ 62) : (canon neg n k).dig.length ≤ 9223372036854775807 := by
  have hs : ∀ (k m : Nat), m < 10 ^ 62 → (strip m k).1 < 10 ^ 62 := fun k => by
    induction k with
    | zero => intro m hm; exact hm
    | succ k ih =>
      intro m hm
      unfold strip
      split
      · exact ih _ (Nat.lt_of_le_of_lt (Nat.div_le_self _ _) hm)
      · exact hm
  unfold canon
  split
  · exact (by decide : ([48] : List UInt8).length ≤ 9223372036854775807)
  · have := (decDigits_lt (n := (strip n k).1) (k := 62) (by omega)).2 (hs k n hn)
    show (decDigits (strip n k).1).length ≤ _
    omega
set_option maxHeartbeats 4000000 in
theorem c_lives12 (w₀ : World) (ht : Tab10 w₀) (he : Errs w₀) (h : AHeap) : ACall Tryz.prog w₀ 13 [] h (fun v h' => v = .bool true ∧ h' = h) := by
  refine acall_intro (n := 182) (rs := [.tmp 0]) Tryz.func13 rfl rfl rfl rfl (Nat.le_of_ble_eq_true rfl) ?_
  simp only [initSlots]
  -- region 0  law.go:143
  refine awp_rseq [] (by rfl) fun K hK => ?_
  simp (decide := true) only [aOps_nil, ev, absV, absS, putD, Slots.put, Slots.keep, if_false, true_and, ↓ap_assign, pop_assign]
  repeat (with_reducible refine And.intro ?_ ?_; · first | trivial | omega | (intro hg; simp only [Bool.and_eq_true, Bool.or_eq_true, Bool.not_eq_true', Bool.and_eq_false_iff, Bool.or_eq_false_iff, Bool.not_eq_false', decide_eq_true_eq, decide_eq_false_iff_not, eqNil] at hg; omega) )
  apply hK; clear hK K
  -- region 1  law.go:144
  refine awp_rseq [1] (by rfl) fun K hK => ?_
  refine aOps_buildSlice (cs := [.str [45, 48, 49, 50, 46, 53, 48], .str [46, 53], .str [53, 46], .str [45]]) (by kernel_rfl) fun k1q0 hk1q0 => ?_
  try have hf_1q0 : h k1q0 = none := by first | assumption | (simp only [AHeap.set_none] at hk1q0; simp only [hk1q0])
  simp (decide := true) only [aOps_nil, ev, putD, Slots.put, Slots.get, Slots.keep, if_true, if_false, true_and, ↓ap_assign, pop_assign]
  repeat (with_reducible refine And.intro ?_ ?_; · first | trivial | omega | (intro hg; simp only [Bool.and_eq_true, Bool.or_eq_true, Bool.not_eq_true', Bool.and_eq_false_iff, Bool.or_eq_false_iff, Bool.not_eq_false', decide_eq_true_eq, decide_eq_false_iff_not, eqNil] at hg; omega) )
  apply hK; clear hK K
  -- region 2  law.go:145
  refine awp_rseq [1, 2] (by rfl) fun K hK => ?_
  simp (decide := true) only [ev, absV, absS, putD, Slots.put, Slots.get, if_false, true_and, ↓ap_build, ↓pop_buildL, bld27_0_1_2, evP, List.map_cons, List.map_nil, bld27_1_2, bld27_]
  repeat (with_reducible refine And.intro ?_ ?_; · first | trivial | omega | (intro hg; simp only [Bool.and_eq_true, Bool.or_eq_true, Bool.not_eq_true', Bool.and_eq_false_iff, Bool.or_eq_false_iff, Bool.not_eq_false', decide_eq_true_eq, decide_eq_false_iff_not, eqNil] at hg; omega) )
  refine aOps_buildSlice (cs := [.bool true, .str [49, 50, 53], .int .i64 1, .bool false, .str [53], .int .i64 1, .bool false, .str [], .int .i64 0, .bool false, .str [], .int .i64 0]) (by kernel_rfl) fun k2q4 hk2q4 => ?_
  have ne_2q4_1q0 : k2q4 ≠ k1q0 := by simp only [AHeap.set_none] at hk2q4; simp only [hk2q4, ne_eq, not_false_eq_true]
  try have hf_2q4 : h k2q4 = none := by first | assumption | (simp only [AHeap.set_none] at hk2q4; simp only [hk2q4])
  simp (decide := true) only [aOps_nil, ev, putD, Slots.put, Slots.get, Slots.keep, if_true, if_false, true_and, ↓ap_assign, pop_assign]
  repeat (with_reducible refine And.intro ?_ ?_; · first | trivial | omega | (intro hg; simp only [Bool.and_eq_true, Bool.or_eq_true, Bool.not_eq_true', Bool.and_eq_false_iff, Bool.or_eq_false_iff, Bool.not_eq_false', decide_eq_true_eq, decide_eq_false_iff_not, eqNil] at hg; omega) )
  apply hK; clear hK K
  refine awp_seq ?_
  -- region 3  law.go:146
  refine awp_rseq [1, 2, 3] (by rfl) fun K hK => ?_
  simp (decide := true) only [aOps_nil, ev, absV, absS, putD, Slots.put, Slots.keep, if_true, if_false, true_and, ↓ap_assign, pop_assign]
  repeat (with_reducible refine And.intro ?_ ?_; · first | trivial | omega | (intro hg; simp only [Bool.and_eq_true, Bool.or_eq_true, Bool.not_eq_true', Bool.and_eq_false_iff, Bool.or_eq_false_iff, Bool.not_eq_false', decide_eq_true_eq, decide_eq_false_iff_not, eqNil] at hg; omega) )
  apply hK; clear hK K
  refine awp_block ?_
  refine awp_loopG [1, 2, 3] (fun i : Nat => [(1, .slice (.own k1q0) 0 4 (.exact 4)), (2, .slice (.own k2q4) 0 4 (.exact 4)), (3, .int .i64 i)]) (fun i : Nat => (h.set k1q0 ⟨[.str [45, 48, 49, 50, 46, 53, 48], .str [46, 53], .str [53, 46], .str [45]], 0⟩).set k2q4 ⟨[.bool true, .str [49, 50, 53], .int .i64 1, .bool false, .str [53], .int .i64 1, .bool false, .str [], .int .i64 0, .bool false, .str [], .int .i64 0], 0⟩) (fun i : Nat => i ≤ 4) (fun i : Nat => 4 - i) 0 (by rfl) (Sub.refl _) (by omega) ?_
  intro i hi
  refine awp_seq ?_
  -- region 4  law.go:146
  refine awp_rseq [1, 2, 3, 31] (by rfl) fun K hK => ?_
  simp (decide := true) only [aOps_nil, ev, absV, absS, putD, Slots.put, Slots.get, Slots.keep, if_true, if_false, true_and, ↓ap_move, pop_move, ↓ap_binOp, pop_binOp, isNilC_int, cond_false, pBinX_int, pI_lss]
  repeat (with_reducible refine And.intro ?_ ?_; · first | trivial | omega | (intro hg; simp only [Bool.and_eq_true, Bool.or_eq_true, Bool.not_eq_true', Bool.and_eq_false_iff, Bool.or_eq_false_iff, Bool.not_eq_false', decide_eq_true_eq, decide_eq_false_iff_not, eqNil] at hg; omega) )
  apply hK; clear hK K
  refine awp_cond (b := _) rfl (fun hb1 => ?_) (fun hb1 => ?_)
  · try simp only [decide_eq_true_eq] at hb1
    have hi4 : i < 4 := by omega
    have hps : ([.str [45, 48, 49, 50, 46, 53, 48], .str [46, 53], .str [53, 46], .str [45]] : List AVal).getD i .dead = .str (pS i) := by
      match i, hi4 with
      | 0, _ => rfl
      | 1, _ => rfl
      | 2, _ => rfl
      | 3, _ => rfl
    have hd0 : ([.bool true, .str [49, 50, 53], .int .i64 1, .bool false, .str [53], .int .i64 1, .bool false, .str [], .int .i64 0, .bool false, .str [], .int .i64 0] : List AVal).getD (i * 3) .dead = .bool (pD i).neg := by
      match i, hi4 with
      | 0, _ => rfl
      | 1, _ => rfl
      | 2, _ => rfl
      | 3, _ => rfl
    have hd1 : ([.bool true, .str [49, 50, 53], .int .i64 1, .bool false, .str [53], .int .i64 1, .bool false, .str [], .int .i64 0, .bool false, .str [], .int .i64 0] : List AVal).getD (i * 3 + 1) .dead = .str (pD i).dig := by
      match i, hi4 with
      | 0, _ => rfl
      | 1, _ => rfl
      | 2, _ => rfl
      | 3, _ => rfl
    have hd2 : ([.bool true, .str [49, 50, 53], .int .i64 1, .bool false, .str [53], .int .i64 1, .bool false, .str [], .int .i64 0, .bool false, .str [], .int .i64 0] : List AVal).getD (i * 3 + 1 + 1) .dead = .int .i64 (pD i).scale := by
      match i, hi4 with
      | 0, _ => rfl
      | 1, _ => rfl
      | 2, _ => rfl
      | 3, _ => rfl
    have hpl : (pS i).length ≤ 100 := by
      match i, hi4 with
      | 0, _ => decide
      | 1, _ => decide
      | 2, _ => decide
      | 3, _ => decide
    have hpe : (i < 2 ∧ pE i = 0) ∨ (2 ≤ i ∧ pE i = 4) := by
      match i, hi4 with
      | 0, _ => exact .inl (by decide)
      | 1, _ => exact .inl (by decide)
      | 2, _ => exact .inr (by decide)
      | 3, _ => exact .inr (by decide)
    refine awp_skip ?_
    change Awp _ _ _ _ _ _ _
    refine awp_seq ?_
    refine awp_block ?_
    -- region 6  law.go:147
    refine awp_rseq [1, 2, 3, 4, 5] (by rfl) fun K hK => ?_
    simp (decide := true) only [ev, putD, Slots.put, Slots.get, if_true, if_false, true_and, ↓ap_move, pop_move, ↓ap_indexAddrL, apL_mk, pIndexAddr_slice Tryz.underlying65 sz9, ↓ap_loadL, pLoad_one ag9, rd_ne', ne_eq, not_false_eq_true, ne_2q4_1q0.symm, rd_any, Nat.zero_add, lv_str, Int.toNat_natCast, Nat.mul_one, hps]
    repeat (with_reducible refine And.intro ?_ ?_; · first | trivial | omega | (intro hg; simp only [Bool.and_eq_true, Bool.or_eq_true, Bool.not_eq_true', Bool.and_eq_false_iff, Bool.or_eq_false_iff, Bool.not_eq_false', decide_eq_true_eq, decide_eq_false_iff_not, eqNil] at hg; omega) )
    refine aOps_callV (V := .tuple [decA (pD i), .int .i64 (pE i)]) (by rfl) (by rfl) ((c_Parse w₀ _ (pS i) (by omega)).val (by rw [ex_parse i hi4])) ?_
    simp (decide := true) only [ev, putD, Slots.put, Slots.get, if_true, if_false, true_and, ↓ap_move, pop_move, ↓ap_extract, pop_extract, pExt_tuple, List.length_cons, List.length_nil, List.getD_cons_zero, List.getD_cons_succ, List.getD_cons_zero, List.getD_cons_succ, Nat.zero_add, Nat.reduceAdd, decA]
    repeat (with_reducible refine And.intro ?_ ?_; · first | trivial | omega | (intro hg; simp only [Bool.and_eq_true, Bool.or_eq_true, Bool.not_eq_true', Bool.and_eq_false_iff, Bool.or_eq_false_iff, Bool.not_eq_false', decide_eq_true_eq, decide_eq_false_iff_not, eqNil] at hg; omega) )
    refine aOps_alloc ze27 (cs := [.bool false, .str [], .int .i64 0]) (by rfl) fun k6q8 hk6q8 => ?_
    have ne_6q8_1q0 : k6q8 ≠ k1q0 := by simp only [AHeap.set_none] at hk6q8; simp only [hk6q8, ne_eq, not_false_eq_true]
    have ne_6q8_2q4 : k6q8 ≠ k2q4 := by simp only [AHeap.set_none] at hk6q8; simp only [hk6q8, ne_eq, not_false_eq_true]
    try have hf_6q8 : h k6q8 = none := by first | assumption | (simp only [AHeap.set_none] at hk6q8; simp only [hk6q8])
    refine aOps_store (by rfl) (by rfl) (by repeat (first | exact AHeap.set_same _ _ _ | assumption | refine (AHeap.set_ne _ _ (by first | assumption | exact Ne.symm (by assumption))).trans ?_)) sz27 (by rfl) (by rfl) (by first | exact Nat.le_refl _ | decide | (simp; done) | (simp; omega)) (Nat.zero_le _) (by rfl) ?_
    simp only [AHeap.set_set, AVal.cells]
    simp (decide := true) only [aOps_nil, ev, putD, Slots.put, Slots.get, Slots.keep, if_true, if_false, true_and, ↓ap_assign, pop_assign, setAt, List.set_cons_zero, List.set_cons_succ, Nat.zero_add, Nat.reduceAdd]
    repeat (with_reducible refine And.intro ?_ ?_; · first | trivial | omega | (intro hg; simp only [Bool.and_eq_true, Bool.or_eq_true, Bool.not_eq_true', Bool.and_eq_false_iff, Bool.or_eq_false_iff, Bool.not_eq_false', decide_eq_true_eq, decide_eq_false_iff_not, eqNil] at hg; omega) )
    apply hK; clear hK K
    -- region 7  law.go:148
    refine awp_dseq_all [1, 2, 3, 62] mixed (by kernel_rfl) (by rfl) (by rfl) fun K hK => ?_
    simp (decide := true) only [aOps_nil, ev, absV, absS, putD, Slots.put, Slots.get, Slots.keep, if_true, if_false, true_and, ↓ap_loadL, apL_mk, pLoad_agg ag27 sz27, ↓ap_move, pop_move, ↓ap_indexAddrL, pIndexAddr_slice Tryz.underlying66 sz27, ↓ap_binOp, pop_binOp, isNilC_tmp, cond_false, pBinX_agg, ne27, ↓ag_move, agP, agQ_some, nthDst, gKnown_bool, gKnown_cond, guardB_cond, guardB_bool_true, guardB_bool_false, cv_cv, implies_true, Bool.not_not, decide_true, Bool.and_true, ↓ag_binOp, isNilC_int, cv_binl, cv_binr, cp_binl, cp_binr, pBinX_int, pI_eql, pI_lss, pBinX_bne, Tryz.underlying4, ↓ap_pick, pop_pick, pPick_bool, pickV_cond_r, pickV_cond_rn, cp_nest1, pickV_and, pickV_or, pI_gtr, pI_neq, ↓ag_pick, cv_pick, cp_pick, rd_ne', ne_eq, not_false_eq_true, ne_6q8_2q4.symm, rd_any, cellsAt, List.getD_cons_zero, List.getD_cons_succ, Nat.zero_add, Nat.reduceAdd, lv_bool, lv_int, lv_str, allLive, Bool.and_true, Int.toNat_natCast, hd0, hd1, hd2]
    repeat (with_reducible refine And.intro ?_ ?_; · first | trivial | omega | (intro hg; simp only [Bool.and_eq_true, Bool.or_eq_true, Bool.not_eq_true', Bool.and_eq_false_iff, Bool.or_eq_false_iff, Bool.not_eq_false', decide_eq_true_eq, decide_eq_false_iff_not, eqNil] at hg; omega) )
    apply hK; clear hK K
    refine awp_cond (b := _) rfl (fun hb2 => ?_) (fun hb2 => ?_)
    · try simp only [decide_eq_true_eq, decide_eq_false_iff_not, Bool.not_eq_true', Bool.and_eq_true, Bool.or_eq_true] at hb2
      exfalso
      rcases hpe with ⟨h1, h2⟩ | ⟨h1, h2⟩
      · rw [h2] at hb2; simp at hb2; omega
      · rw [h2] at hb2; simp at hb2; omega
    · try simp only [decide_eq_true_eq, decide_eq_false_iff_not, Bool.not_eq_false', Bool.and_eq_false_iff, Bool.or_eq_false_iff] at hb2
      refine awp_skip ?_
      change Awp _ _ _ _ _ _ _
      -- region 5  law.go:146
      refine awp_r [1, 2, 3] (by rfl) ?_
      simp (decide := true) only [aOps_nil, ev, absV, absS, putD, Slots.put, Slots.get, Slots.keep, if_true, if_false, true_and, ↓ap_move, pop_move, ↓ap_binOp, pop_binOp, isNilC_int, cond_false, pBinX_int, pI_add, ↓ap_assign, pop_assign]
      try simp (disch := omega) only [wrap_i64]
      repeat (with_reducible refine And.intro ?_ ?_; · first | trivial | omega | (intro hg; simp only [Bool.and_eq_true, Bool.or_eq_true, Bool.not_eq_true', Bool.and_eq_false_iff, Bool.or_eq_false_iff, Bool.not_eq_false', decide_eq_true_eq, decide_eq_false_iff_not, eqNil] at hg; omega) )
      try simp only [thenA_normal]
      refine ⟨i + 1, rfl, (by repeat (first | exact Sub.refl _ | refine Sub.trans_set ?_ (by assumption))), by omega, by omega⟩
  · try simp only [decide_eq_false_iff_not] at hb1
    refine awp_exit ?_
    change Awp _ _ _ _ _ _ _
    -- region 9  law.go:152
    refine awp_rseq [6, 7] (by rfl) fun K hK => ?_
    refine aOps_callV (V := decA (canon false 1 1)) (by rfl) (by rfl) ((c_of12 w₀ ht _ 1 1 (by omega) (by omega) (by omega) (by omega)).val rfl) ?_
    refine aOps_callV (V := decA (canon false 25 2)) (by rfl) (by rfl) ((c_of12 w₀ ht _ 25 2 (by omega) (by omega) (by omega) (by omega)).val rfl) ?_
    refine aOps_callV (V := .tuple [decA (canon false 35 2), .int .i64 0]) (by rfl) (by rfl) ((c_Add w₀ _ (canon false 1 1) (canon false 25 2) (canon_lenD _ _ _ (by decide +kernel)) (canon_lenD _ _ _ (by decide +kernel))).val (by rw [ex_add])) ?_
    simp (decide := true) only [ev, putD, Slots.put, Slots.get, if_true, if_false, true_and, ↓ap_move, pop_move, ↓ap_extract, pop_extract, pExt_tuple, List.getD_cons_zero, List.getD_cons_succ, List.getD_cons_zero, List.getD_cons_succ, decA]
    repeat (with_reducible refine And.intro ?_ ?_; · first | trivial | omega | (intro hg; simp only [Bool.and_eq_true, Bool.or_eq_true, Bool.not_eq_true', Bool.and_eq_false_iff, Bool.or_eq_false_iff, Bool.not_eq_false', decide_eq_true_eq, decide_eq_false_iff_not, eqNil] at hg; omega) )
    refine aOps_alloc ze27 (cs := [.bool false, .str [], .int .i64 0]) (by rfl) fun k9q6 hk9q6 => ?_
    have ne_9q6_1q0 : k9q6 ≠ k1q0 := by simp only [AHeap.set_none] at hk9q6; simp only [hk9q6, ne_eq, not_false_eq_true]
    have ne_9q6_2q4 : k9q6 ≠ k2q4 := by simp only [AHeap.set_none] at hk9q6; simp only [hk9q6, ne_eq, not_false_eq_true]
    try have hf_9q6 : h k9q6 = none := by first | assumption | (simp only [AHeap.set_none] at hk9q6; simp only [hk9q6])
    refine aOps_store (by rfl) (by rfl) (by repeat (first | exact AHeap.set_same _ _ _ | assumption | refine (AHeap.set_ne _ _ (by first | assumption | exact Ne.symm (by assumption))).trans ?_)) sz27 (by rfl) (by rfl) (by first | exact Nat.le_refl _ | decide | (simp; done) | (simp; omega)) (Nat.zero_le _) (by rfl) ?_
    simp only [AHeap.set_set, AVal.cells]
    simp (decide := true) only [aOps_nil, ev, putD, Slots.put, Slots.get, Slots.keep, if_true, if_false, true_and, ↓ap_assign, pop_assign, setAt, List.set_cons_zero, List.set_cons_succ, Nat.zero_add, Nat.reduceAdd]
    repeat (with_reducible refine And.intro ?_ ?_; · first | trivial | omega | (intro hg; simp only [Bool.and_eq_true, Bool.or_eq_true, Bool.not_eq_true', Bool.and_eq_false_iff, Bool.or_eq_false_iff, Bool.not_eq_false', decide_eq_true_eq, decide_eq_false_iff_not, eqNil] at hg; omega) )
    apply hK; clear hK K
    -- region 10  law.go:153
    refine awp_rseq [6, 7, 8, 9] (by rfl) fun K hK => ?_
    refine aOps_callV (V := decA (canon false 1 0)) (by rfl) (by rfl) ((c_of12 w₀ ht _ 1 0 (by omega) (by omega) (by omega) (by omega)).val rfl) ?_
    refine aOps_callV (V := decA (canon false 1 0)) (by rfl) (by rfl) ((c_of12 w₀ ht _ 1 0 (by omega) (by omega) (by omega) (by omega)).val rfl) ?_
    refine aOps_callV (V := .tuple [decA (canon false 0 0), .int .i64 0]) (by rfl) (by rfl) ((c_Sub w₀ _ (canon false 1 0) (canon false 1 0) (canon_lenD _ _ _ (by decide +kernel)) (canon_lenD _ _ _ (by decide +kernel))).val (by rw [ex_sub])) ?_
    simp (decide := true) only [ev, putD, Slots.put, Slots.get, if_true, if_false, true_and, ↓ap_move, pop_move, ↓ap_extract, pop_extract, pExt_tuple, List.getD_cons_zero, List.getD_cons_succ, List.getD_cons_zero, List.getD_cons_succ, decA]
    repeat (with_reducible refine And.intro ?_ ?_; · first | trivial | omega | (intro hg; simp only [Bool.and_eq_true, Bool.or_eq_true, Bool.not_eq_true', Bool.and_eq_false_iff, Bool.or_eq_false_iff, Bool.not_eq_false', decide_eq_true_eq, decide_eq_false_iff_not, eqNil] at hg; omega) )
    refine aOps_alloc ze27 (cs := [.bool false, .str [], .int .i64 0]) (by rfl) fun k10q6 hk10q6 => ?_
    have ne_10q6_1q0 : k10q6 ≠ k1q0 := by simp only [AHeap.set_none] at hk10q6; simp only [hk10q6, ne_eq, not_false_eq_true]
    have ne_10q6_2q4 : k10q6 ≠ k2q4 := by simp only [AHeap.set_none] at hk10q6; simp only [hk10q6, ne_eq, not_false_eq_true]
    have ne_10q6_9q6 : k10q6 ≠ k9q6 := by simp only [AHeap.set_none] at hk10q6; simp only [hk10q6, ne_eq, not_false_eq_true]
    try have hf_10q6 : h k10q6 = none := by first | assumption | (simp only [AHeap.set_none] at hk10q6; simp only [hk10q6])
    refine aOps_store (by rfl) (by rfl) (by repeat (first | exact AHeap.set_same _ _ _ | assumption | refine (AHeap.set_ne _ _ (by first | assumption | exact Ne.symm (by assumption))).trans ?_)) sz27 (by rfl) (by rfl) (by first | exact Nat.le_refl _ | decide | (simp; done) | (simp; omega)) (Nat.zero_le _) (by rfl) ?_
    simp only [AHeap.set_set, AVal.cells]
    simp (decide := true) only [aOps_nil, ev, putD, Slots.put, Slots.get, Slots.keep, if_true, if_false, true_and, ↓ap_assign, pop_assign, setAt, List.set_cons_zero, List.set_cons_succ, Nat.zero_add, Nat.reduceAdd]
    repeat (with_reducible refine And.intro ?_ ?_; · first | trivial | omega | (intro hg; simp only [Bool.and_eq_true, Bool.or_eq_true, Bool.not_eq_true', Bool.and_eq_false_iff, Bool.or_eq_false_iff, Bool.not_eq_false', decide_eq_true_eq, decide_eq_false_iff_not, eqNil] at hg; omega) )
    apply hK; clear hK K
    -- region 11  law.go:154
    refine awp_rseq [6, 7, 8, 9, 10, 11] (by rfl) fun K hK => ?_
    refine aOps_callV (V := decA (canon true 15 1)) (by rfl) (by rfl) ((c_of12 w₀ ht _ (-15) 1 (by omega) (by omega) (by omega) (by omega)).val rfl) ?_
    refine aOps_callV (V := decA (canon false 4 1)) (by rfl) (by rfl) ((c_of12 w₀ ht _ 4 1 (by omega) (by omega) (by omega) (by omega)).val rfl) ?_
    refine aOps_callV (V := .tuple [decA (canon true 6 1), .int .i64 0]) (by rfl) (by rfl) ((c_Mul w₀ _ (canon true 15 1) (canon false 4 1) (canon_lenD _ _ _ (by decide +kernel)) (canon_lenD _ _ _ (by decide +kernel))).val (by rw [ex_mul])) ?_
    simp (decide := true) only [ev, putD, Slots.put, Slots.get, if_true, if_false, true_and, ↓ap_move, pop_move, ↓ap_extract, pop_extract, pExt_tuple, List.getD_cons_zero, List.getD_cons_succ, List.getD_cons_zero, List.getD_cons_succ, decA]
    repeat (with_reducible refine And.intro ?_ ?_; · first | trivial | omega | (intro hg; simp only [Bool.and_eq_true, Bool.or_eq_true, Bool.not_eq_true', Bool.and_eq_false_iff, Bool.or_eq_false_iff, Bool.not_eq_false', decide_eq_true_eq, decide_eq_false_iff_not, eqNil] at hg; omega) )
    refine aOps_alloc ze27 (cs := [.bool false, .str [], .int .i64 0]) (by rfl) fun k11q6 hk11q6 => ?_
    have ne_11q6_1q0 : k11q6 ≠ k1q0 := by simp only [AHeap.set_none] at hk11q6; simp only [hk11q6, ne_eq, not_false_eq_true]
    have ne_11q6_2q4 : k11q6 ≠ k2q4 := by simp only [AHeap.set_none] at hk11q6; simp only [hk11q6, ne_eq, not_false_eq_true]
    have ne_11q6_9q6 : k11q6 ≠ k9q6 := by simp only [AHeap.set_none] at hk11q6; simp only [hk11q6, ne_eq, not_false_eq_true]
    have ne_11q6_10q6 : k11q6 ≠ k10q6 := by simp only [AHeap.set_none] at hk11q6; simp only [hk11q6, ne_eq, not_false_eq_true]
    try have hf_11q6 : h k11q6 = none := by first | assumption | (simp only [AHeap.set_none] at hk11q6; simp only [hk11q6])
    refine aOps_store (by rfl) (by rfl) (by repeat (first | exact AHeap.set_same _ _ _ | assumption | refine (AHeap.set_ne _ _ (by first | assumption | exact Ne.symm (by assumption))).trans ?_)) sz27 (by rfl) (by rfl) (by first | exact Nat.le_refl _ | decide | (simp; done) | (simp; omega)) (Nat.zero_le _) (by rfl) ?_
    simp only [AHeap.set_set, AVal.cells]
    simp (decide := true) only [aOps_nil, ev, putD, Slots.put, Slots.get, Slots.keep, if_true, if_false, true_and, ↓ap_assign, pop_assign, setAt, List.set_cons_zero, List.set_cons_succ, Nat.zero_add, Nat.reduceAdd]
    repeat (with_reducible refine And.intro ?_ ?_; · first | trivial | omega | (intro hg; simp only [Bool.and_eq_true, Bool.or_eq_true, Bool.not_eq_true', Bool.and_eq_false_iff, Bool.or_eq_false_iff, Bool.not_eq_false', decide_eq_true_eq, decide_eq_false_iff_not, eqNil] at hg; omega) )
    apply hK; clear hK K
    -- region 12  law.go:155
    refine awp_rseq [6, 7, 8, 9, 10, 11, 12, 13] (by rfl) fun K hK => ?_
    refine aOps_callV (V := decA (canon false 2 0)) (by rfl) (by rfl) ((c_of12 w₀ ht _ 2 0 (by omega) (by omega) (by omega) (by omega)).val rfl) ?_
    refine aOps_callV (V := decA (canon false 3 0)) (by rfl) (by rfl) ((c_of12 w₀ ht _ 3 0 (by omega) (by omega) (by omega) (by omega)).val rfl) ?_
    refine aOps_callV (V := .tuple [decA exQ, .int .i64 0]) (by rfl) (by rfl) ((c_Div w₀ _ (canon false 2 0) (canon false 3 0) (canon_lenD _ _ _ (by decide +kernel)) (canon_lenD _ _ _ (by decide +kernel))).val (by rw [ex_div])) ?_
    simp (decide := true) only [ev, putD, Slots.put, Slots.get, if_true, if_false, true_and, ↓ap_move, pop_move, ↓ap_extract, pop_extract, pExt_tuple, List.getD_cons_zero, List.getD_cons_succ, List.getD_cons_zero, List.getD_cons_succ, decA]
    repeat (with_reducible refine And.intro ?_ ?_; · first | trivial | omega | (intro hg; simp only [Bool.and_eq_true, Bool.or_eq_true, Bool.not_eq_true', Bool.and_eq_false_iff, Bool.or_eq_false_iff, Bool.not_eq_false', decide_eq_true_eq, decide_eq_false_iff_not, eqNil] at hg; omega) )
    refine aOps_alloc ze27 (cs := [.bool false, .str [], .int .i64 0]) (by rfl) fun k12q6 hk12q6 => ?_
    have ne_12q6_1q0 : k12q6 ≠ k1q0 := by simp only [AHeap.set_none] at hk12q6; simp only [hk12q6, ne_eq, not_false_eq_true]
    have ne_12q6_2q4 : k12q6 ≠ k2q4 := by simp only [AHeap.set_none] at hk12q6; simp only [hk12q6, ne_eq, not_false_eq_true]
    have ne_12q6_9q6 : k12q6 ≠ k9q6 := by simp only [AHeap.set_none] at hk12q6; simp only [hk12q6, ne_eq, not_false_eq_true]
    have ne_12q6_10q6 : k12q6 ≠ k10q6 := by simp only [AHeap.set_none] at hk12q6; simp only [hk12q6, ne_eq, not_false_eq_true]
    have ne_12q6_11q6 : k12q6 ≠ k11q6 := by simp only [AHeap.set_none] at hk12q6; simp only [hk12q6, ne_eq, not_false_eq_true]
    try have hf_12q6 : h k12q6 = none := by first | assumption | (simp only [AHeap.set_none] at hk12q6; simp only [hk12q6])
    refine aOps_store (by rfl) (by rfl) (by repeat (first | exact AHeap.set_same _ _ _ | assumption | refine (AHeap.set_ne _ _ (by first | assumption | exact Ne.symm (by assumption))).trans ?_)) sz27 (by rfl) (by rfl) (by first | exact Nat.le_refl _ | decide | (simp; done) | (simp; omega)) (Nat.zero_le _) (by rfl) ?_
    simp only [AHeap.set_set, AVal.cells]
    simp (decide := true) only [aOps_nil, ev, putD, Slots.put, Slots.get, Slots.keep, if_true, if_false, true_and, ↓ap_assign, pop_assign, setAt, List.set_cons_zero, List.set_cons_succ, Nat.zero_add, Nat.reduceAdd]
    repeat (with_reducible refine And.intro ?_ ?_; · first | trivial | omega | (intro hg; simp only [Bool.and_eq_true, Bool.or_eq_true, Bool.not_eq_true', Bool.and_eq_false_iff, Bool.or_eq_false_iff, Bool.not_eq_false', decide_eq_true_eq, decide_eq_false_iff_not, eqNil] at hg; omega) )
    apply hK; clear hK K
    -- region 13  law.go:156
    refine awp_rseq [6, 7, 8, 9, 10, 11, 12, 13, 15] (by rfl) fun K hK => ?_
    refine aOps_callV (V := decA (canon false 1 0)) (by rfl) (by rfl) ((c_of12 w₀ ht _ 1 0 (by omega) (by omega) (by omega) (by omega)).val rfl) ?_
    refine aOps_callV (V := decA (canon false 0 0)) (by rfl) (by rfl) ((c_of12 w₀ ht _ 0 0 (by omega) (by omega) (by omega) (by omega)).val rfl) ?_
    refine aOps_callV (V := .tuple [decA noD, .int .i64 7]) (by rfl) (by rfl) ((c_Div w₀ _ (canon false 1 0) (canon false 0 0) (canon_lenD _ _ _ (by decide +kernel)) (canon_lenD _ _ _ (by decide +kernel))).val (by rw [ex_div0])) ?_
    simp (decide := true) only [ev, putD, Slots.put, Slots.get, if_true, if_false, true_and, ↓ap_move, pop_move, ↓ap_extract, pop_extract, pExt_tuple, List.getD_cons_zero, List.getD_cons_succ, List.getD_cons_zero, List.getD_cons_succ, decA]
    repeat (with_reducible refine And.intro ?_ ?_; · first | trivial | omega | (intro hg; simp only [Bool.and_eq_true, Bool.or_eq_true, Bool.not_eq_true', Bool.and_eq_false_iff, Bool.or_eq_false_iff, Bool.not_eq_false', decide_eq_true_eq, decide_eq_false_iff_not, eqNil] at hg; omega) )
    refine aOps_alloc ze27 (cs := [.bool false, .str [], .int .i64 0]) (by rfl) fun k13q6 hk13q6 => ?_
    have ne_13q6_1q0 : k13q6 ≠ k1q0 := by simp only [AHeap.set_none] at hk13q6; simp only [hk13q6, ne_eq, not_false_eq_true]
    have ne_13q6_2q4 : k13q6 ≠ k2q4 := by simp only [AHeap.set_none] at hk13q6; simp only [hk13q6, ne_eq, not_false_eq_true]
    have ne_13q6_9q6 : k13q6 ≠ k9q6 := by simp only [AHeap.set_none] at hk13q6; simp only [hk13q6, ne_eq, not_false_eq_true]
    have ne_13q6_10q6 : k13q6 ≠ k10q6 := by simp only [AHeap.set_none] at hk13q6; simp only [hk13q6, ne_eq, not_false_eq_true]
    have ne_13q6_11q6 : k13q6 ≠ k11q6 := by simp only [AHeap.set_none] at hk13q6; simp only [hk13q6, ne_eq, not_false_eq_true]
    have ne_13q6_12q6 : k13q6 ≠ k12q6 := by simp only [AHeap.set_none] at hk13q6; simp only [hk13q6, ne_eq, not_false_eq_true]
    try have hf_13q6 : h k13q6 = none := by first | assumption | (simp only [AHeap.set_none] at hk13q6; simp only [hk13q6])
    refine aOps_store (by rfl) (by rfl) (by repeat (first | exact AHeap.set_same _ _ _ | assumption | refine (AHeap.set_ne _ _ (by first | assumption | exact Ne.symm (by assumption))).trans ?_)) sz27 (by rfl) (by rfl) (by first | exact Nat.le_refl _ | decide | (simp; done) | (simp; omega)) (Nat.zero_le _) (by rfl) ?_
    simp only [AHeap.set_set, AVal.cells]
    simp (decide := true) only [aOps_nil, ev, putD, Slots.put, Slots.get, Slots.keep, if_true, if_false, true_and, ↓ap_assign, pop_assign, setAt, List.set_cons_zero, List.set_cons_succ, Nat.zero_add, Nat.reduceAdd]
    repeat (with_reducible refine And.intro ?_ ?_; · first | trivial | omega | (intro hg; simp only [Bool.and_eq_true, Bool.or_eq_true, Bool.not_eq_true', Bool.and_eq_false_iff, Bool.or_eq_false_iff, Bool.not_eq_false', decide_eq_true_eq, decide_eq_false_iff_not, eqNil] at hg; omega) )
    apply hK; clear hK K
    -- region 14  law.go:157
    refine awp_rseq [6, 7, 8, 9, 10, 11, 12, 13, 15, 16, 17] (by rfl) fun K hK => ?_
    refine aOps_callV (V := decA (canon false 11 1)) (by rfl) (by rfl) ((c_of12 w₀ ht _ 11 1 (by omega) (by omega) (by omega) (by omega)).val rfl) ?_
    refine aOps_callV (V := decA (canon false 3 0)) (by rfl) (by rfl) ((c_of12 w₀ ht _ 3 0 (by omega) (by omega) (by omega) (by omega)).val rfl) ?_
    refine aOps_callV (V := .tuple [decA (canon false 1331 3), .int .i64 0]) (by rfl) (by rfl) ((c_Pow w₀ he _ (canon false 11 1) (canon false 3 0) (canon_lenD _ _ _ (by decide +kernel)) (canon_lenD _ _ _ (by decide +kernel))).val (by rw [ex_pow])) ?_
    simp (decide := true) only [ev, putD, Slots.put, Slots.get, if_true, if_false, true_and, ↓ap_move, pop_move, ↓ap_extract, pop_extract, pExt_tuple, List.getD_cons_zero, List.getD_cons_succ, List.getD_cons_zero, List.getD_cons_succ, decA]
    repeat (with_reducible refine And.intro ?_ ?_; · first | trivial | omega | (intro hg; simp only [Bool.and_eq_true, Bool.or_eq_true, Bool.not_eq_true', Bool.and_eq_false_iff, Bool.or_eq_false_iff, Bool.not_eq_false', decide_eq_true_eq, decide_eq_false_iff_not, eqNil] at hg; omega) )
    refine aOps_alloc ze27 (cs := [.bool false, .str [], .int .i64 0]) (by rfl) fun k14q6 hk14q6 => ?_
    have ne_14q6_1q0 : k14q6 ≠ k1q0 := by simp only [AHeap.set_none] at hk14q6; simp only [hk14q6, ne_eq, not_false_eq_true]
    have ne_14q6_2q4 : k14q6 ≠ k2q4 := by simp only [AHeap.set_none] at hk14q6; simp only [hk14q6, ne_eq, not_false_eq_true]
    have ne_14q6_9q6 : k14q6 ≠ k9q6 := by simp only [AHeap.set_none] at hk14q6; simp only [hk14q6, ne_eq, not_false_eq_true]
    have ne_14q6_10q6 : k14q6 ≠ k10q6 := by simp only [AHeap.set_none] at hk14q6; simp only [hk14q6, ne_eq, not_false_eq_true]
    have ne_14q6_11q6 : k14q6 ≠ k11q6 := by simp only [AHeap.set_none] at hk14q6; simp only [hk14q6, ne_eq, not_false_eq_true]
    have ne_14q6_12q6 : k14q6 ≠ k12q6 := by simp only [AHeap.set_none] at hk14q6; simp only [hk14q6, ne_eq, not_false_eq_true]
    have ne_14q6_13q6 : k14q6 ≠ k13q6 := by simp only [AHeap.set_none] at hk14q6; simp only [hk14q6, ne_eq, not_false_eq_true]
    try have hf_14q6 : h k14q6 = none := by first | assumption | (simp only [AHeap.set_none] at hk14q6; simp only [hk14q6])
    refine aOps_store (by rfl) (by rfl) (by repeat (first | exact AHeap.set_same _ _ _ | assumption | refine (AHeap.set_ne _ _ (by first | assumption | exact Ne.symm (by assumption))).trans ?_)) sz27 (by rfl) (by rfl) (by first | exact Nat.le_refl _ | decide | (simp; done) | (simp; omega)) (Nat.zero_le _) (by rfl) ?_
    simp only [AHeap.set_set, AVal.cells]
    simp (decide := true) only [aOps_nil, ev, putD, Slots.put, Slots.get, Slots.keep, if_true, if_false, true_and, ↓ap_assign, pop_assign, setAt, List.set_cons_zero, List.set_cons_succ, Nat.zero_add, Nat.reduceAdd]
    repeat (with_reducible refine And.intro ?_ ?_; · first | trivial | omega | (intro hg; simp only [Bool.and_eq_true, Bool.or_eq_true, Bool.not_eq_true', Bool.and_eq_false_iff, Bool.or_eq_false_iff, Bool.not_eq_false', decide_eq_true_eq, decide_eq_false_iff_not, eqNil] at hg; omega) )
    apply hK; clear hK K
    -- region 15  law.go:158
    refine awp_rseq [6, 7, 8, 9, 10, 11, 12, 13, 15, 16, 17, 18, 19, 20] (by rfl) fun K hK => ?_
    refine aOps_callV (V := decA (canon true 1257 2)) (by rfl) (by rfl) ((c_of12 w₀ ht _ (-1257) 2 (by omega) (by omega) (by omega) (by omega)).val rfl) ?_
    refine aOps_callV (V := .tuple [decA (canon true 125 1), .bool false, .int .i64 0]) (by rfl) (by rfl) ((c_Cut w₀ _ (canon true 1257 2) 1 (canon_lenD _ _ _ (by decide +kernel)) (by omega) (by omega)).val (by rw [ex_cut1])) ?_
    simp (decide := true) only [ev, putD, Slots.put, Slots.get, if_true, if_false, true_and, ↓ap_move, pop_move, ↓ap_extract, pop_extract, pExt_tuple, List.getD_cons_zero, List.getD_cons_succ, List.getD_cons_zero, List.getD_cons_succ, decA]
    repeat (with_reducible refine And.intro ?_ ?_; · first | trivial | omega | (intro hg; simp only [Bool.and_eq_true, Bool.or_eq_true, Bool.not_eq_true', Bool.and_eq_false_iff, Bool.or_eq_false_iff, Bool.not_eq_false', decide_eq_true_eq, decide_eq_false_iff_not, eqNil] at hg; omega) )
    refine aOps_alloc ze27 (cs := [.bool false, .str [], .int .i64 0]) (by rfl) fun k15q6 hk15q6 => ?_
    have ne_15q6_1q0 : k15q6 ≠ k1q0 := by simp only [AHeap.set_none] at hk15q6; simp only [hk15q6, ne_eq, not_false_eq_true]
    have ne_15q6_2q4 : k15q6 ≠ k2q4 := by simp only [AHeap.set_none] at hk15q6; simp only [hk15q6, ne_eq, not_false_eq_true]
    have ne_15q6_9q6 : k15q6 ≠ k9q6 := by simp only [AHeap.set_none] at hk15q6; simp only [hk15q6, ne_eq, not_false_eq_true]
    have ne_15q6_10q6 : k15q6 ≠ k10q6 := by simp only [AHeap.set_none] at hk15q6; simp only [hk15q6, ne_eq, not_false_eq_true]
    have ne_15q6_11q6 : k15q6 ≠ k11q6 := by simp only [AHeap.set_none] at hk15q6; simp only [hk15q6, ne_eq, not_false_eq_true]
    have ne_15q6_12q6 : k15q6 ≠ k12q6 := by simp only [AHeap.set_none] at hk15q6; simp only [hk15q6, ne_eq, not_false_eq_true]
    have ne_15q6_13q6 : k15q6 ≠ k13q6 := by simp only [AHeap.set_none] at hk15q6; simp only [hk15q6, ne_eq, not_false_eq_true]
    have ne_15q6_14q6 : k15q6 ≠ k14q6 := by simp only [AHeap.set_none] at hk15q6; simp only [hk15q6, ne_eq, not_false_eq_true]
    try have hf_15q6 : h k15q6 = none := by first | assumption | (simp only [AHeap.set_none] at hk15q6; simp only [hk15q6])
    refine aOps_store (by rfl) (by rfl) (by repeat (first | exact AHeap.set_same _ _ _ | assumption | refine (AHeap.set_ne _ _ (by first | assumption | exact Ne.symm (by assumption))).trans ?_)) sz27 (by rfl) (by rfl) (by first | exact Nat.le_refl _ | decide | (simp; done) | (simp; omega)) (Nat.zero_le _) (by rfl) ?_
    simp only [AHeap.set_set, AVal.cells]
    simp (decide := true) only [aOps_nil, ev, putD, Slots.put, Slots.get, Slots.keep, if_true, if_false, true_and, ↓ap_assign, pop_assign, setAt, List.set_cons_zero, List.set_cons_succ, Nat.zero_add, Nat.reduceAdd]
    repeat (with_reducible refine And.intro ?_ ?_; · first | trivial | omega | (intro hg; simp only [Bool.and_eq_true, Bool.or_eq_true, Bool.not_eq_true', Bool.and_eq_false_iff, Bool.or_eq_false_iff, Bool.not_eq_false', decide_eq_true_eq, decide_eq_false_iff_not, eqNil] at hg; omega) )
    apply hK; clear hK K
    -- region 16  law.go:159
    refine awp_rseq [6, 7, 8, 9, 10, 11, 12, 13, 15, 16, 17, 18, 19, 20, 21, 22, 23] (by rfl) fun K hK => ?_
    refine aOps_callV (V := decA (canon false 1250 0)) (by rfl) (by rfl) ((c_of12 w₀ ht _ 1250 0 (by omega) (by omega) (by omega) (by omega)).val rfl) ?_
    refine aOps_callV (V := .tuple [decA (canon false 1200 0), .bool false, .int .i64 0]) (by rfl) (by rfl) ((c_Cut w₀ _ (canon false 1250 0) (-2) (canon_lenD _ _ _ (by decide +kernel)) (by omega) (by omega)).val (by rw [ex_cut2])) ?_
    simp (decide := true) only [ev, putD, Slots.put, Slots.get, if_true, if_false, true_and, ↓ap_move, pop_move, ↓ap_extract, pop_extract, pExt_tuple, List.getD_cons_zero, List.getD_cons_succ, List.getD_cons_zero, List.getD_cons_succ, decA]
    repeat (with_reducible refine And.intro ?_ ?_; · first | trivial | omega | (intro hg; simp only [Bool.and_eq_true, Bool.or_eq_true, Bool.not_eq_true', Bool.and_eq_false_iff, Bool.or_eq_false_iff, Bool.not_eq_false', decide_eq_true_eq, decide_eq_false_iff_not, eqNil] at hg; omega) )
    refine aOps_alloc ze27 (cs := [.bool false, .str [], .int .i64 0]) (by rfl) fun k16q6 hk16q6 => ?_
    have ne_16q6_1q0 : k16q6 ≠ k1q0 := by simp only [AHeap.set_none] at hk16q6; simp only [hk16q6, ne_eq, not_false_eq_true]
    have ne_16q6_2q4 : k16q6 ≠ k2q4 := by simp only [AHeap.set_none] at hk16q6; simp only [hk16q6, ne_eq, not_false_eq_true]
    have ne_16q6_9q6 : k16q6 ≠ k9q6 := by simp only [AHeap.set_none] at hk16q6; simp only [hk16q6, ne_eq, not_false_eq_true]
    have ne_16q6_10q6 : k16q6 ≠ k10q6 := by simp only [AHeap.set_none] at hk16q6; simp only [hk16q6, ne_eq, not_false_eq_true]
    have ne_16q6_11q6 : k16q6 ≠ k11q6 := by simp only [AHeap.set_none] at hk16q6; simp only [hk16q6, ne_eq, not_false_eq_true]
    have ne_16q6_12q6 : k16q6 ≠ k12q6 := by simp only [AHeap.set_none] at hk16q6; simp only [hk16q6, ne_eq, not_false_eq_true]
    have ne_16q6_13q6 : k16q6 ≠ k13q6 := by simp only [AHeap.set_none] at hk16q6; simp only [hk16q6, ne_eq, not_false_eq_true]
    have ne_16q6_14q6 : k16q6 ≠ k14q6 := by simp only [AHeap.set_none] at hk16q6; simp only [hk16q6, ne_eq, not_false_eq_true]
    have ne_16q6_15q6 : k16q6 ≠ k15q6 := by simp only [AHeap.set_none] at hk16q6; simp only [hk16q6, ne_eq, not_false_eq_true]
    try have hf_16q6 : h k16q6 = none := by first | assumption | (simp only [AHeap.set_none] at hk16q6; simp only [hk16q6])
    refine aOps_store (by rfl) (by rfl) (by repeat (first | exact AHeap.set_same _ _ _ | assumption | refine (AHeap.set_ne _ _ (by first | assumption | exact Ne.symm (by assumption))).trans ?_)) sz27 (by rfl) (by rfl) (by first | exact Nat.le_refl _ | decide | (simp; done) | (simp; omega)) (Nat.zero_le _) (by rfl) ?_
    simp only [AHeap.set_set, AVal.cells]
    simp (decide := true) only [aOps_nil, ev, putD, Slots.put, Slots.get, Slots.keep, if_true, if_false, true_and, ↓ap_assign, pop_assign, setAt, List.set_cons_zero, List.set_cons_succ, Nat.zero_add, Nat.reduceAdd]
    repeat (with_reducible refine And.intro ?_ ?_; · first | trivial | omega | (intro hg; simp only [Bool.and_eq_true, Bool.or_eq_true, Bool.not_eq_true', Bool.and_eq_false_iff, Bool.or_eq_false_iff, Bool.not_eq_false', decide_eq_true_eq, decide_eq_false_iff_not, eqNil] at hg; omega) )
    apply hK; clear hK K
    refine awp_seq ?_
    -- region 17  law.go:160
    refine awp_rseq [6, 8, 10, 12, 16, 18, 19, 21, 22, 140] (by rfl) fun K hK => ?_
    simp (decide := true) only [aOps_nil, ev, absV, absS, putD, Slots.put, Slots.get, Slots.keep, if_true, if_false, true_and, ↓ap_move, pop_move, ↓ap_binOp, pop_binOp, isNilC_int, cond_false, pBinX_int, pI_neq, ↓ag_move, agP, agQ_some, nthDst, gKnown_bool, guardB_bool_false, implies_true, decide_true, Bool.not_false, Bool.not_true, condV_true, Bool.and_true, ↓ag_binOp, ↓ap_pick, pop_pick, pPick_bool, pickV_and, Bool.and_true]
    repeat (with_reducible refine And.intro ?_ ?_; · first | trivial | omega | (intro hg; simp only [Bool.and_eq_true, Bool.or_eq_true, Bool.not_eq_true', Bool.and_eq_false_iff, Bool.or_eq_false_iff, Bool.not_eq_false', decide_eq_true_eq, decide_eq_false_iff_not, eqNil] at hg; omega) )
    apply hK; clear hK K
    refine awp_cond (b := _) rfl (fun hb3 => ?_) (fun hb3 => ?_)
    · exact absurd hb3 (by decide)
    · try simp only at hb3
      refine awp_skip ?_
      change Awp _ _ _ _ _ _ _
      -- region 19  law.go:163
      refine awp_dseq_any [0] mixed (by kernel_rfl) (by rfl) fun K hK => ?_
      simp (decide := true) only [ev, putD, Slots.put, Slots.get, if_true, if_false, true_and, ↓vp_load, pop_load, pLoad_agg ag27 sz27, rd_ne', ne_eq, not_false_eq_true, ne_10q6_9q6.symm, ne_11q6_9q6.symm, ne_12q6_9q6.symm, ne_13q6_9q6.symm, ne_14q6_9q6.symm, ne_15q6_9q6.symm, ne_16q6_9q6.symm, rd_any, cellsAt, List.getD_cons_zero, List.getD_cons_succ, Nat.zero_add, Nat.reduceAdd, lv_bool, lv_int, lv_str, allLive, Bool.and_true, Bool.and_true]
      repeat (with_reducible refine And.intro ?_ ?_; · first | trivial | omega | (intro hg; simp only [Bool.and_eq_true, Bool.or_eq_true, Bool.not_eq_true', Bool.and_eq_false_iff, Bool.or_eq_false_iff, Bool.not_eq_false', decide_eq_true_eq, decide_eq_false_iff_not, eqNil] at hg; omega) )
      refine vOps_callV (V := decA (canon false 35 2)) (by rfl) (by rfl) ((c_of12 w₀ ht _ 35 2 (by omega) (by omega) (by omega) (by omega)).val rfl) ?_
      simp (decide := true) only [ev, putD, Slots.put, Slots.get, if_true, if_false, true_and, ↓vp_binOp, pop_binOp, isNilC_tmp, cond_false, pBinX_agg, eq27, ↓vp_move, pop_move, ↓vg_load, pop_load, vgQ_some, vgP, nthDst, gKnown_bool, guardB_bool_true, implies_true, decide_true, condV_true, Bool.and_true, pLoad_agg ag27 sz27, rd_ne', ne_eq, not_false_eq_true, ne_11q6_10q6.symm, ne_12q6_10q6.symm, ne_13q6_10q6.symm, ne_14q6_10q6.symm, ne_15q6_10q6.symm, ne_16q6_10q6.symm, rd_any, cellsAt, List.getD_cons_zero, List.getD_cons_succ, Nat.zero_add, Nat.reduceAdd, lv_bool, lv_int, lv_str, allLive, Bool.and_true, decA, beq_self_eq_true, Bool.and_true, decide_true]
      repeat (with_reducible refine And.intro ?_ ?_; · first | trivial | omega | (intro hg; simp only [Bool.and_eq_true, Bool.or_eq_true, Bool.not_eq_true', Bool.and_eq_false_iff, Bool.or_eq_false_iff, Bool.not_eq_false', decide_eq_true_eq, decide_eq_false_iff_not, eqNil] at hg; omega) )
      refine vOps_gcall (V := decA (canon false 0 0)) (f := _) (cap := _) (xs := _) rfl (fun hg => ⟨rfl, ?_⟩) (fun hg => (c_of12 w₀ ht _ 0 0 (by omega) (by omega) (by omega) (by omega)).val rfl) ?_
      · try simp (decide := true) only [gv, nthDst, Slots.get, if_true, if_false, guardB_bool_true] at hg
        simp (decide := true) only [evs, ev, List.append_nil, List.map_cons, List.map_nil, absV, absS]
      simp (decide := true) only [ev, absV, absS, putD, Slots.put, Slots.get, if_true, if_false, true_and, gv, nthDst, guardB_bool_true, ↓vg_binOp, pop_binOp, vgP, vgQ_some, gKnown_bool, implies_true, decide_true, condV_true, Bool.and_true, isNilC_tmp, cond_false, pBinX_agg, eq27, ↓vp_pick, pop_pick, pPick_bool, pickV_and, ↓vp_move, pop_move, ↓vg_load, pop_load, pLoad_agg ag27 sz27, rd_ne', ne_eq, not_false_eq_true, ne_12q6_11q6.symm, ne_13q6_11q6.symm, ne_14q6_11q6.symm, ne_15q6_11q6.symm, ne_16q6_11q6.symm, rd_any, cellsAt, List.getD_cons_zero, List.getD_cons_succ, Nat.zero_add, Nat.reduceAdd, lv_bool, lv_int, lv_str, allLive, Bool.and_true, decA, beq_self_eq_true, Bool.and_true, decide_true]
      repeat (with_reducible refine And.intro ?_ ?_; · first | trivial | omega | (intro hg; simp only [Bool.and_eq_true, Bool.or_eq_true, Bool.not_eq_true', Bool.and_eq_false_iff, Bool.or_eq_false_iff, Bool.not_eq_false', decide_eq_true_eq, decide_eq_false_iff_not, eqNil] at hg; omega) )
      refine vOps_gcall (V := decA (canon true 6 1)) (f := _) (cap := _) (xs := _) rfl (fun hg => ⟨rfl, ?_⟩) (fun hg => (c_of12 w₀ ht _ (-6) 1 (by omega) (by omega) (by omega) (by omega)).val rfl) ?_
      · try simp (decide := true) only [gv, nthDst, Slots.get, if_true, if_false, guardB_bool_true] at hg
        simp (decide := true) only [evs, ev, List.append_nil, List.map_cons, List.map_nil, absV, absS]
      simp (decide := true) only [ev, absV, absS, putD, Slots.put, Slots.get, if_true, if_false, true_and, gv, nthDst, guardB_bool_true, ↓vg_binOp, pop_binOp, vgP, vgQ_some, gKnown_bool, implies_true, decide_true, condV_true, Bool.and_true, isNilC_tmp, cond_false, pBinX_agg, eq27, ↓vp_pick, pop_pick, pPick_bool, pickV_and, ↓vp_move, pop_move, ↓vg_load, pop_load, pLoad_agg ag27 sz27, rd_ne', ne_eq, not_false_eq_true, ne_13q6_12q6.symm, ne_14q6_12q6.symm, ne_15q6_12q6.symm, ne_16q6_12q6.symm, rd_any, cellsAt, List.getD_cons_zero, List.getD_cons_succ, Nat.zero_add, Nat.reduceAdd, lv_bool, lv_int, lv_str, allLive, Bool.and_true, decA, beq_self_eq_true, Bool.and_true, decide_true]
      repeat (with_reducible refine And.intro ?_ ?_; · first | trivial | omega | (intro hg; simp only [Bool.and_eq_true, Bool.or_eq_true, Bool.not_eq_true', Bool.and_eq_false_iff, Bool.or_eq_false_iff, Bool.not_eq_false', decide_eq_true_eq, decide_eq_false_iff_not, eqNil] at hg; omega) )
      refine vOps_gcall (V := .str [48, 46, 54, 54, 54, 54, 54, 54, 54, 54, 54, 54, 54, 54, 54, 54, 54, 54, 54, 54, 54, 54, 54, 54, 54, 54, 54, 54, 54, 54, 54, 54]) (f := _) (cap := _) (xs := _) rfl (fun hg => ⟨rfl, ?_⟩) (fun hg => (show ACall Tryz.prog w₀ 16 [.agg [.bool exQ.neg, .str exQ.dig, .int .i64 exQ.scale]] _ _ from (c_Text w₀ _ exQ (by decide)).val (by rw [ex_text]))) ?_
      · try simp (decide := true) only [gv, nthDst, Slots.get, if_true, if_false, guardB_bool_true] at hg
        simp (decide := true) only [evs, ev, Slots.get, if_true, if_false, List.append_nil, List.map_cons, List.map_nil]
      simp (decide := true) only [ev, absV, absS, putD, Slots.put, Slots.get, if_true, if_false, true_and, gv, nthDst, guardB_bool_true, ↓vg_binOp, pop_binOp, vgP, vgQ_some, gKnown_bool, implies_true, decide_true, condV_true, Bool.and_true, isNilC_str, cond_false, pBinX_str, pS_eql, ↓vp_pick, pop_pick, pPick_bool, pickV_and, ↓vp_move, pop_move, ↓vg_load, pop_load, pLoad_agg ag27 sz27, rd_ne', ne_eq, not_false_eq_true, ne_15q6_14q6.symm, ne_16q6_14q6.symm, rd_any, cellsAt, List.getD_cons_zero, List.getD_cons_succ, Nat.zero_add, Nat.reduceAdd, lv_bool, lv_int, lv_str, allLive, Bool.and_true, Bool.and_true, decide_true]
      repeat (with_reducible refine And.intro ?_ ?_; · first | trivial | omega | (intro hg; simp only [Bool.and_eq_true, Bool.or_eq_true, Bool.not_eq_true', Bool.and_eq_false_iff, Bool.or_eq_false_iff, Bool.not_eq_false', decide_eq_true_eq, decide_eq_false_iff_not, eqNil] at hg; omega) )
      refine vOps_gcall (V := decA (canon false 1331 3)) (f := _) (cap := _) (xs := _) rfl (fun hg => ⟨rfl, ?_⟩) (fun hg => (c_of12 w₀ ht _ 1331 3 (by omega) (by omega) (by omega) (by omega)).val rfl) ?_
      · try simp (decide := true) only [gv, nthDst, Slots.get, if_true, if_false, guardB_bool_true] at hg
        simp (decide := true) only [evs, ev, List.append_nil, List.map_cons, List.map_nil, absV, absS]
      simp (decide := true) only [ev, absV, absS, putD, Slots.put, Slots.get, if_true, if_false, true_and, gv, nthDst, guardB_bool_true, ↓vg_binOp, pop_binOp, vgP, vgQ_some, gKnown_bool, implies_true, decide_true, condV_true, Bool.and_true, isNilC_tmp, cond_false, pBinX_agg, eq27, ↓vp_pick, pop_pick, pPick_bool, pickV_and, ↓vp_move, pop_move, ↓vg_load, pop_load, pLoad_agg ag27 sz27, rd_ne', ne_eq, not_false_eq_true, ne_16q6_15q6.symm, rd_any, cellsAt, List.getD_cons_zero, List.getD_cons_succ, Nat.zero_add, Nat.reduceAdd, lv_bool, lv_int, lv_str, allLive, Bool.and_true, decA, beq_self_eq_true, Bool.and_true, decide_true]
      repeat (with_reducible refine And.intro ?_ ?_; · first | trivial | omega | (intro hg; simp only [Bool.and_eq_true, Bool.or_eq_true, Bool.not_eq_true', Bool.and_eq_false_iff, Bool.or_eq_false_iff, Bool.not_eq_false', decide_eq_true_eq, decide_eq_false_iff_not, eqNil] at hg; omega) )
      refine vOps_gcall (V := decA (canon true 125 1)) (f := _) (cap := _) (xs := _) rfl (fun hg => ⟨rfl, ?_⟩) (fun hg => (c_of12 w₀ ht _ (-125) 1 (by omega) (by omega) (by omega) (by omega)).val rfl) ?_
      · try simp (decide := true) only [gv, nthDst, Slots.get, if_true, if_false, guardB_bool_true] at hg
        simp (decide := true) only [evs, ev, List.append_nil, List.map_cons, List.map_nil, absV, absS]
      simp (decide := true) only [ev, absV, absS, putD, Slots.put, Slots.get, if_true, if_false, true_and, gv, nthDst, guardB_bool_true, ↓vg_binOp, pop_binOp, vgP, vgQ_some, gKnown_bool, implies_true, decide_true, Bool.not_false, condV_true, Bool.and_true, isNilC_tmp, cond_false, pBinX_agg, eq27, ↓vp_pick, pop_pick, pPick_bool, pickV_and, ↓vp_move, pop_move, ↓vg_move, ↓vg_unOp, pop_unOp, pU_not, ↓vg_load, pop_load, pLoad_agg ag27 sz27, rd_any, cellsAt, List.getD_cons_zero, List.getD_cons_succ, Nat.zero_add, Nat.reduceAdd, lv_bool, lv_int, lv_str, allLive, Bool.and_true, decA, beq_self_eq_true, Bool.and_true, decide_true, Bool.not_false]
      try simp (disch := omega) only [wrap_i64, wrap_u8]
      repeat (with_reducible refine And.intro ?_ ?_; · first | trivial | omega | (intro hg; simp only [Bool.and_eq_true, Bool.or_eq_true, Bool.not_eq_true', Bool.and_eq_false_iff, Bool.or_eq_false_iff, Bool.not_eq_false', decide_eq_true_eq, decide_eq_false_iff_not, eqNil] at hg; omega) )
      refine vOps_gcall (V := decA (canon false 1200 0)) (f := _) (cap := _) (xs := _) rfl (fun hg => ⟨rfl, ?_⟩) (fun hg => (c_of12 w₀ ht _ 1200 0 (by omega) (by omega) (by omega) (by omega)).val rfl) ?_
      · try simp (decide := true) only [gv, nthDst, Slots.get, if_true, if_false, guardB_bool_true] at hg
        simp (decide := true) only [evs, ev, List.append_nil, List.map_cons, List.map_nil, absV, absS]
      simp (decide := true) only [vOps_nil, ev, absV, absS, putD, Slots.put, Slots.get, Slots.keep, if_true, if_false, true_and, gv, nthDst, guardB_bool_true, ↓vg_binOp, pop_binOp, vgP, vgQ_some, gKnown_bool, implies_true, decide_true, Bool.not_false, condV_true, Bool.and_true, isNilC_tmp, cond_false, pBinX_agg, eq27, ↓vp_pick, pop_pick, pPick_bool, pickV_and, ↓vp_move, pop_move, ↓vg_move, ↓vg_unOp, pop_unOp, pU_not, ↓vp_assign, pop_assign, Bool.and_true, decA, beq_self_eq_true, Bool.and_true, decide_true, Bool.not_false]
      try simp (disch := omega) only [wrap_i64, wrap_u8]
      repeat (with_reducible refine And.intro ?_ ?_; · first | trivial | omega | (intro hg; simp only [Bool.and_eq_true, Bool.or_eq_true, Bool.not_eq_true', Bool.and_eq_false_iff, Bool.or_eq_false_iff, Bool.not_eq_false', decide_eq_true_eq, decide_eq_false_iff_not, eqNil] at hg; omega) )
      apply hK; clear hK K
      refine awp_ret ?_
      try simp only [thenA_ret, inBlockA_ret]
      refine retA_ret h (by repeat (first | exact Sub.refl _ | refine Sub.trans_set ?_ (by assumption))) (resPre_tmp (resPre_nil)) ?_
      simp (decide := true) only [Slots.get, if_true, and_true, resOf_one]
      all_goals first | rfl | exact ⟨rfl, rfl⟩ | (simp (decide := true) only [if_true, if_false, *]; done) | (trace_state; fail)
end Go.Proofs.YthiiakghjoeikaaGreatDoor
