/-
  Contracts of the statements' functions: a grid, a number from an integer, a power of ten, neighbors.
  Conditions: none.
-/
import Derived.Test.YtnaioficflbioaaDoorLwA
import Derived.Test.YtnaioficflbioaaDoorRdB
set_option linter.unusedSimpArgs false
set_option linter.unnecessarySimpa false
set_option linter.unusedVariables false
namespace Go.Proofs.YtnaioficflbioaaDoor
open Go.AM
open Go.Proofs
open Go.Dec
open Go.Lib (decDigits)
set_option maxRecDepth 100000

def gDig (a : UInt8) : Int := if 128 ≤ (a.toNat : Int) then 1 + (a.toNat : Int) % 62 else 1 + (a.toNat : Int) % 18
def gSc (b : UInt8) : Int := if 128 ≤ (b.toNat : Int) then (b.toNat : Int) % 125 - 62 else (b.toNat : Int) % 12 - 3

theorem c_gridOf (w₀ : World) (h : AHeap) (a b : UInt8) :
    ACall Tryd.prog w₀ 10 [.agg [.int .u8 a.toNat, .int .u8 b.toNat]] h (fun v h' => v = .tuple [.int .i64 (gDig a), .int .i64 (gSc b)] ∧ h' = h) := by
  have ha := a.toNat_lt
  have hb := b.toNat_lt
  refine acall_intro (n := 32) (rs := [.tmp 2, .tmp 3]) Tryd.func10 rfl rfl rfl rfl (Nat.le_of_ble_eq_true rfl) ?_
  simp only [initSlots]
  -- region 0  law.go:49
  refine awp_rseq [1] (by rfl) fun K hK => ?_
  refine aOps_box (by rfl) (by rfl) (by rfl) fun k0q0 hk0q0 => ?_
  try have hf_0q0 : h k0q0 = none := by first | assumption | (simp only [AHeap.set_none] at hk0q0; simp only [hk0q0])
  skip
  simp (decide := true) only [aOps_nil, ev, absV, absS, putD, Slots.put, Slots.get, Slots.keep, if_true, if_false, true_and, ↓ap_assign, pop_assign, AVal.cells]
  repeat (with_reducible refine And.intro ?_ ?_; · first | trivial | omega | (intro hg; simp only [Bool.and_eq_true, Bool.or_eq_true, Bool.not_eq_true', Bool.and_eq_false_iff, Bool.or_eq_false_iff, Bool.not_eq_false', decide_eq_true_eq, decide_eq_false_iff_not, eqNil] at hg; omega) )
  apply hK; clear hK K
  -- region 1  law.go:50
  refine awp_rseq [1, 2] (by rfl) fun K hK => ?_
  simp (decide := true) only [aOps_nil, ev, absV, absS, putD, Slots.put, Slots.get, Slots.keep, if_true, if_false, true_and, ↓ap_fieldAddr, pop_fieldAddr, fa26_0, ↓ap_loadL, apL_mk, pLoad_one ag5, ↓ap_convert _ _ _ (es_int Tryd.underlying5 Tryd.underlying3), pop_convert, pConv_int Tryd.underlying5 Tryd.underlying3, ↓ap_binOp, pop_binOp, pBinX_int, pI_rem, pI_add, ↓ap_assign, pop_assign, rd_any, List.getD_cons_zero, Nat.zero_add, lv_int]
  try simp (disch := omega) only [Int.tmod_eq_emod_of_nonneg, wrap_i64]
  repeat (with_reducible refine And.intro ?_ ?_; · first | trivial | omega | (intro hg; simp only [Bool.and_eq_true, Bool.or_eq_true, Bool.not_eq_true', Bool.and_eq_false_iff, Bool.or_eq_false_iff, Bool.not_eq_false', decide_eq_true_eq, decide_eq_false_iff_not, eqNil] at hg; omega) )
  apply hK; clear hK K
  refine awp_seq ?_
  -- region 2  law.go:51
  refine awp_rseq [1, 2, 11] (by rfl) fun K hK => ?_
  simp (decide := true) only [aOps_nil, ev, absV, absS, putD, Slots.put, Slots.get, Slots.keep, if_true, if_false, true_and, ↓ap_fieldAddr, pop_fieldAddr, fa26_0, ↓ap_loadL, apL_mk, pLoad_one ag5, ↓ap_binOp, pop_binOp, pBinX_int, pI_geq, rd_any, List.getD_cons_zero, Nat.zero_add, lv_int]
  repeat (with_reducible refine And.intro ?_ ?_; · first | trivial | omega | (intro hg; simp only [Bool.and_eq_true, Bool.or_eq_true, Bool.not_eq_true', Bool.and_eq_false_iff, Bool.or_eq_false_iff, Bool.not_eq_false', decide_eq_true_eq, decide_eq_false_iff_not, eqNil] at hg; omega) )
  apply hK; clear hK K
  refine awp_joinT [1, 2] (fun x : Int => [(1, .ptr (.own k0q0) 0), (2, .int .i64 x)]) (fun x : Int => h.set k0q0 ⟨[.int .u8 a.toNat, .int .u8 b.toNat], 0⟩) (fun x : Int => x = gDig a) ?_ ?_
  · refine awp_cond (b := _) rfl (fun hb1 => ?_) (fun hb1 => ?_)
    · try simp only [decide_eq_true_eq] at hb1
      -- region 3  law.go:52
      refine awp_r [1, 2] (by rfl) ?_
      simp (decide := true) only [aOps_nil, ev, absV, absS, putD, Slots.put, Slots.get, Slots.keep, if_true, if_false, true_and, ↓ap_fieldAddr, pop_fieldAddr, fa26_0, ↓ap_loadL, apL_mk, pLoad_one ag5, ↓ap_convert _ _ _ (es_int Tryd.underlying5 Tryd.underlying3), pop_convert, pConv_int Tryd.underlying5 Tryd.underlying3, ↓ap_binOp, pop_binOp, pBinX_int, pI_rem, pI_add, ↓ap_assign, pop_assign, rd_any, List.getD_cons_zero, Nat.zero_add, lv_int]
      try simp (disch := omega) only [Int.tmod_eq_emod_of_nonneg, wrap_i64]
      repeat (with_reducible refine And.intro ?_ ?_; · first | trivial | omega | (intro hg; simp only [Bool.and_eq_true, Bool.or_eq_true, Bool.not_eq_true', Bool.and_eq_false_iff, Bool.or_eq_false_iff, Bool.not_eq_false', decide_eq_true_eq, decide_eq_false_iff_not, eqNil] at hg; omega) )
      try simp only [thenA_normal]
      first
      | exact ⟨_, rfl, Sub.refl _, by rw [gDig, if_pos hb1]⟩
      | exact ⟨_, rfl, Sub.refl _, by rw [gDig, if_neg hb1]⟩
    · try simp only [decide_eq_false_iff_not] at hb1
      refine awp_skip ?_
      try simp only [thenA_normal]
      first
      | exact ⟨_, rfl, Sub.refl _, by rw [gDig, if_pos hb1]⟩
      | exact ⟨_, rfl, Sub.refl _, by rw [gDig, if_neg hb1]⟩
  · intro x hx
    -- region 4  law.go:54
    refine awp_rseq [1, 2, 3] (by rfl) fun K hK => ?_
    simp (decide := true) only [aOps_nil, ev, absV, absS, putD, Slots.put, Slots.get, Slots.keep, if_true, if_false, true_and, ↓ap_fieldAddr, pop_fieldAddr, fa26_1, ↓ap_loadL, apL_mk, pLoad_one ag5, ↓ap_convert _ _ _ (es_int Tryd.underlying5 Tryd.underlying3), pop_convert, pConv_int Tryd.underlying5 Tryd.underlying3, ↓ap_binOp, pop_binOp, pBinX_int, pI_rem, pI_sub, ↓ap_assign, pop_assign, rd_any, List.getD_cons_zero, List.getD_cons_succ, Nat.zero_add, lv_int]
    try simp (disch := omega) only [Int.tmod_eq_emod_of_nonneg, wrap_i64]
    repeat (with_reducible refine And.intro ?_ ?_; · first | trivial | omega | (intro hg; simp only [Bool.and_eq_true, Bool.or_eq_true, Bool.not_eq_true', Bool.and_eq_false_iff, Bool.or_eq_false_iff, Bool.not_eq_false', decide_eq_true_eq, decide_eq_false_iff_not, eqNil] at hg; omega) )
    apply hK; clear hK K
    refine awp_seq ?_
    -- region 5  law.go:55
    refine awp_rseq [1, 2, 3, 24] (by rfl) fun K hK => ?_
    simp (decide := true) only [aOps_nil, ev, absV, absS, putD, Slots.put, Slots.get, Slots.keep, if_true, if_false, true_and, ↓ap_fieldAddr, pop_fieldAddr, fa26_1, ↓ap_loadL, apL_mk, pLoad_one ag5, ↓ap_binOp, pop_binOp, pBinX_int, pI_geq, rd_any, List.getD_cons_zero, List.getD_cons_succ, Nat.zero_add, lv_int]
    repeat (with_reducible refine And.intro ?_ ?_; · first | trivial | omega | (intro hg; simp only [Bool.and_eq_true, Bool.or_eq_true, Bool.not_eq_true', Bool.and_eq_false_iff, Bool.or_eq_false_iff, Bool.not_eq_false', decide_eq_true_eq, decide_eq_false_iff_not, eqNil] at hg; omega) )
    apply hK; clear hK K
    refine awp_cond (b := _) rfl (fun hb2 => ?_) (fun hb2 => ?_)
    · try simp only [decide_eq_true_eq] at hb2
      -- region 6  law.go:56
      refine awp_r [2, 3] (by rfl) ?_
      simp (decide := true) only [aOps_nil, ev, absV, absS, putD, Slots.put, Slots.get, Slots.keep, if_true, if_false, true_and, ↓ap_fieldAddr, pop_fieldAddr, fa26_1, ↓ap_loadL, apL_mk, pLoad_one ag5, ↓ap_convert _ _ _ (es_int Tryd.underlying5 Tryd.underlying3), pop_convert, pConv_int Tryd.underlying5 Tryd.underlying3, ↓ap_binOp, pop_binOp, pBinX_int, pI_rem, pI_sub, ↓ap_assign, pop_assign, rd_any, List.getD_cons_zero, List.getD_cons_succ, Nat.zero_add, lv_int]
      try simp (disch := omega) only [Int.tmod_eq_emod_of_nonneg, wrap_i64]
      repeat (with_reducible refine And.intro ?_ ?_; · first | trivial | omega | (intro hg; simp only [Bool.and_eq_true, Bool.or_eq_true, Bool.not_eq_true', Bool.and_eq_false_iff, Bool.or_eq_false_iff, Bool.not_eq_false', decide_eq_true_eq, decide_eq_false_iff_not, eqNil] at hg; omega) )
      change Awp _ _ _ _ _ _ _
      -- region 7  law.go:58
      refine awp_rseq [2, 3] (by rfl) fun K hK => ?_
      simp (decide := true) only [aOps_nil, ev, putD, Slots.put, Slots.get, Slots.keep, if_true, if_false, true_and, ↓ap_move, pop_move, ↓ap_assign, pop_assign]
      repeat (with_reducible refine And.intro ?_ ?_; · first | trivial | omega | (intro hg; simp only [Bool.and_eq_true, Bool.or_eq_true, Bool.not_eq_true', Bool.and_eq_false_iff, Bool.or_eq_false_iff, Bool.not_eq_false', decide_eq_true_eq, decide_eq_false_iff_not, eqNil] at hg; omega) )
      apply hK; clear hK K
      refine awp_ret ?_
      try simp only [thenA_ret, inBlockA_ret]
      refine retA_ret h (by repeat (first | exact Sub.refl _ | refine Sub.trans_set ?_ (by assumption))) (resPre_tmp (resPre_tmp (resPre_nil))) ?_
      simp (decide := true) only [Slots.get, if_true, if_false, and_true, resOf_two]
      rw [gSc, if_pos hb2, hx]
    · try simp only [decide_eq_false_iff_not] at hb2
      refine awp_skip ?_
      change Awp _ _ _ _ _ _ _
      -- region 7  law.go:58
      refine awp_rseq [2, 3] (by rfl) fun K hK => ?_
      simp (decide := true) only [aOps_nil, ev, putD, Slots.put, Slots.get, Slots.keep, if_true, if_false, true_and, ↓ap_move, pop_move, ↓ap_assign, pop_assign]
      repeat (with_reducible refine And.intro ?_ ?_; · first | trivial | omega | (intro hg; simp only [Bool.and_eq_true, Bool.or_eq_true, Bool.not_eq_true', Bool.and_eq_false_iff, Bool.or_eq_false_iff, Bool.not_eq_false', decide_eq_true_eq, decide_eq_false_iff_not, eqNil] at hg; omega) )
      apply hK; clear hK K
      refine awp_ret ?_
      try simp only [thenA_ret, inBlockA_ret]
      refine retA_ret h (by repeat (first | exact Sub.refl _ | refine Sub.trans_set ?_ (by assumption))) (resPre_tmp (resPre_tmp (resPre_nil))) ?_
      simp (decide := true) only [Slots.get, if_true, if_false, and_true, resOf_two]
      rw [gSc, if_neg hb2, hx]

theorem c_of13 (w₀ : World) (ht : Tab10 w₀) (h : AHeap) (n s : Int) (h0 : -1000000 ≤ n) (h1 : n ≤ 1000000) (s0 : 0 ≤ s) (s1 : s ≤ 1000) :
    ACall Tryd.prog w₀ 33 [.int .i64 n, .int .i64 s] h (fun v h' => v = decA (canon (decide (n < 0)) n.natAbs s.toNat) ∧ h' = h) := by
  refine acall_intro (n := 14) (rs := [.cell 4 28]) Tryd.func33 rfl rfl rfl rfl (Nat.le_of_ble_eq_true rfl) ?_
  simp only [initSlots]
  -- region 0  law.go:14
  refine awp_rseq [0, 1, 4] (by rfl) fun K hK => ?_
  refine aOps_alloc ze28 (cs := [.bool false, .str [], .int .i64 0]) (by rfl) fun k0q0 hk0q0 => ?_
  try have hf_0q0 : h k0q0 = none := by first | assumption | (simp only [AHeap.set_none] at hk0q0; simp only [hk0q0])
  simp (decide := true) only [aOps_nil, putD, Slots.put, Slots.keep, if_true, if_false, Nat.zero_add]
  repeat (with_reducible refine And.intro ?_ ?_; · first | trivial | omega | (intro hg; simp only [Bool.and_eq_true, Bool.or_eq_true, Bool.not_eq_true', Bool.and_eq_false_iff, Bool.or_eq_false_iff, Bool.not_eq_false', decide_eq_true_eq, decide_eq_false_iff_not, eqNil] at hg; omega) )
  apply hK; clear hK K
  -- region 1  law.go:15
  refine awp_rseq [4] (by rfl) fun K hK => ?_
  simp (decide := true) only [ev, absV, absS, putD, Slots.put, Slots.get, if_true, if_false, true_and, ↓ap_move, pop_move, ↓ap_binOp, pop_binOp, pBinX_int, pI_lss, ↓ap_unOp, pop_unOp, pU_neg, ↓ap_max, pop_max, pMax_int, evs, List.map_cons, List.map_nil]
  try simp (disch := omega) only [wrap_i64]
  repeat (with_reducible refine And.intro ?_ ?_; · first | trivial | omega | (intro hg; simp only [Bool.and_eq_true, Bool.or_eq_true, Bool.not_eq_true', Bool.and_eq_false_iff, Bool.or_eq_false_iff, Bool.not_eq_false', decide_eq_true_eq, decide_eq_false_iff_not, eqNil] at hg; omega) )
  refine aOps_callV (V := .str (decDigits n.natAbs)) (by rfl) (by rfl) ((c_itoa w₀ ht _ (max n (0 - n)) (by omega) (by omega)).val (by rw [Lib.itoa, if_neg (by omega)]; congr 2; omega)) ?_
  simp (decide := true) only [ev, putD, Slots.put, Slots.get, if_true, if_false, true_and, ↓ap_move, pop_move]
  repeat (with_reducible refine And.intro ?_ ?_; · first | trivial | omega | (intro hg; simp only [Bool.and_eq_true, Bool.or_eq_true, Bool.not_eq_true', Bool.and_eq_false_iff, Bool.or_eq_false_iff, Bool.not_eq_false', decide_eq_true_eq, decide_eq_false_iff_not, eqNil] at hg; omega) )
  refine aOps_callV (V := decA (canon (decide (n < 0)) n.natAbs s.toNat)) (by rfl) (by rfl) ((c_Normal w₀ _ _ _ _ (decDigits_all _) (Nat.le_trans ((decDigits_lt (show 0 < 9 by omega)).2 (by omega)) (by omega)) s0 (by omega)).val (by rw [natOf_decDigits])) ?_
  refine aOps_store (by rfl) (by rfl) (by repeat (first | exact AHeap.set_same _ _ _ | assumption | refine (AHeap.set_ne _ _ (by first | assumption | exact Ne.symm (by assumption))).trans ?_)) sz28 (by rfl) (by rfl) (by first | exact Nat.le_refl _ | decide | (simp; done) | (simp; omega)) (Nat.zero_le _) (by rfl) ?_
  simp only [AHeap.set_set, AVal.cells]
  simp (decide := true) only [aOps_nil, ev, putD, Slots.put, Slots.get, Slots.keep, if_true, if_false, setAt, List.set_cons_zero, List.set_cons_succ, Nat.zero_add, Nat.reduceAdd, decA]
  repeat (with_reducible refine And.intro ?_ ?_; · first | trivial | omega | (intro hg; simp only [Bool.and_eq_true, Bool.or_eq_true, Bool.not_eq_true', Bool.and_eq_false_iff, Bool.or_eq_false_iff, Bool.not_eq_false', decide_eq_true_eq, decide_eq_false_iff_not, eqNil] at hg; omega) )
  apply hK; clear hK K
  refine awp_ret ?_
  try simp only [thenA_ret, inBlockA_ret]
  refine retA_ret h (by repeat (first | exact Sub.refl _ | refine Sub.trans_set ?_ (by assumption))) (?_) ?_
  · simp (decide := true) only [resPre, resV_cell, Slots.get, if_true, and_true, resV_cell, pLoad_agg ag28 sz28, rd_set, cellsAt, List.getD_cons_zero, List.getD_cons_succ, Nat.zero_add, Nat.reduceAdd, lv_bool, lv_int, lv_str, allLive, Bool.and_true, cellsAt, List.getD_cons_zero, List.getD_cons_succ, Nat.zero_add, Nat.reduceAdd, lv_bool, lv_int, lv_str, allLive, Bool.and_true]
  
  simp (decide := true) only [Slots.get, if_true, and_true, resOfG_one, resV_cell, pLoad_agg ag28 sz28, rd_set, cellsAt, List.getD_cons_zero, List.getD_cons_succ, Nat.zero_add, Nat.reduceAdd, lv_bool, lv_int, lv_str, allLive, Bool.and_true, cellsAt, List.getD_cons_zero, List.getD_cons_succ, Nat.zero_add, Nat.reduceAdd, lv_bool, lv_int, lv_str, allLive, Bool.and_true, decA]
  all_goals first | rfl | exact ⟨rfl, rfl⟩ | (simp (decide := true) only [if_true, if_false, *]; done) | (trace_state; fail)

theorem c_power (w₀ : World) (h : AHeap) (n s : Int) (n0 : 0 ≤ n) (n1 : n ≤ 1000) (s0 : 0 ≤ s) (s1 : s ≤ 1000) :
    ACall Tryd.prog w₀ 24 [.int .i64 n, .int .i64 s] h (fun v h' => v = decA (canon false (10 ^ n.toNat) s.toNat) ∧ h' = h) := by
  refine acall_intro (n := 17) (rs := [.cell 4 28]) Tryd.func24 rfl rfl rfl rfl (Nat.le_of_ble_eq_true rfl) ?_
  simp only [initSlots]
  -- region 0  law.go:84
  refine awp_rseq [0, 1, 4] (by rfl) fun K hK => ?_
  refine aOps_alloc ze28 (cs := [.bool false, .str [], .int .i64 0]) (by rfl) fun k0q0 hk0q0 => ?_
  try have hf_0q0 : h k0q0 = none := by first | assumption | (simp only [AHeap.set_none] at hk0q0; simp only [hk0q0])
  simp (decide := true) only [aOps_nil, putD, Slots.put, Slots.keep, if_true, if_false, Nat.zero_add]
  repeat (with_reducible refine And.intro ?_ ?_; · first | trivial | omega | (intro hg; simp only [Bool.and_eq_true, Bool.or_eq_true, Bool.not_eq_true', Bool.and_eq_false_iff, Bool.or_eq_false_iff, Bool.not_eq_false', decide_eq_true_eq, decide_eq_false_iff_not, eqNil] at hg; omega) )
  apply hK; clear hK K
  -- region 1  law.go:85
  refine awp_rseq [0, 1, 4, 5] (by rfl) fun K hK => ?_
  simp (decide := true) only [aOps_nil, ev, absV, absS, putD, Slots.put, Slots.keep, if_true, if_false, true_and, ↓ap_assign, pop_assign]
  repeat (with_reducible refine And.intro ?_ ?_; · first | trivial | omega | (intro hg; simp only [Bool.and_eq_true, Bool.or_eq_true, Bool.not_eq_true', Bool.and_eq_false_iff, Bool.or_eq_false_iff, Bool.not_eq_false', decide_eq_true_eq, decide_eq_false_iff_not, eqNil] at hg; omega) )
  apply hK; clear hK K
  refine awp_seq ?_
  -- region 2  law.go:86
  refine awp_rseq [0, 1, 4, 5, 6] (by rfl) fun K hK => ?_
  simp (decide := true) only [aOps_nil, ev, absV, absS, putD, Slots.put, Slots.keep, if_true, if_false, true_and, ↓ap_assign, pop_assign]
  repeat (with_reducible refine And.intro ?_ ?_; · first | trivial | omega | (intro hg; simp only [Bool.and_eq_true, Bool.or_eq_true, Bool.not_eq_true', Bool.and_eq_false_iff, Bool.or_eq_false_iff, Bool.not_eq_false', decide_eq_true_eq, decide_eq_false_iff_not, eqNil] at hg; omega) )
  apply hK; clear hK K
  refine awp_block ?_
  refine awp_loopG [0, 1, 4, 5, 6] (fun i : Nat => [(0, .int .i64 n), (1, .int .i64 s), (4, .ptr (.own k0q0) 0), (5, .str (49 :: List.replicate i 48)), (6, .int .i64 i)]) (fun i : Nat => h.set k0q0 ⟨[.bool false, .str [], .int .i64 0], 0⟩) (fun i : Nat => (i : Int) ≤ n) (fun i : Nat => n.toNat - i) 0 (by rfl) (Sub.refl _) (by simpa using n0) ?_
  intro i hi
  refine awp_seq ?_
  -- region 3  law.go:86
  refine awp_rseq [0, 1, 4, 5, 6, 9] (by rfl) fun K hK => ?_
  simp (decide := true) only [aOps_nil, ev, putD, Slots.put, Slots.get, Slots.keep, if_true, if_false, true_and, ↓ap_move, pop_move, ↓ap_binOp, pop_binOp, pBinX_int, pI_lss]
  repeat (with_reducible refine And.intro ?_ ?_; · first | trivial | omega | (intro hg; simp only [Bool.and_eq_true, Bool.or_eq_true, Bool.not_eq_true', Bool.and_eq_false_iff, Bool.or_eq_false_iff, Bool.not_eq_false', decide_eq_true_eq, decide_eq_false_iff_not, eqNil] at hg; omega) )
  apply hK; clear hK K
  refine awp_cond (b := _) rfl (fun hb1 => ?_) (fun hb1 => ?_)
  · try simp only [decide_eq_true_eq] at hb1
    refine awp_skip ?_
    change Awp _ _ _ _ _ _ _
    refine awp_seq ?_
    refine awp_block ?_
    -- region 5  law.go:87
    refine awp_r [0, 1, 4, 5, 6] (by rfl) ?_
    simp (decide := true) only [aOps_nil, ev, absV, absS, putD, Slots.put, Slots.get, Slots.keep, if_true, if_false, true_and, ↓ap_move, pop_move, ↓ap_binOp, pop_binOp, pBinX_str, pS_add, ↓ap_assign, pop_assign, decA]
    refine And.intro (by simp; omega) ?_
    change Awp _ _ _ _ _ _ _
    -- region 4  law.go:86
    refine awp_r [0, 1, 4, 5, 6] (by rfl) ?_
    simp (decide := true) only [aOps_nil, ev, absV, absS, putD, Slots.put, Slots.get, Slots.keep, if_true, if_false, true_and, ↓ap_move, pop_move, ↓ap_binOp, pop_binOp, pBinX_int, pI_add, ↓ap_assign, pop_assign]
    try simp (disch := omega) only [wrap_i64]
    repeat (with_reducible refine And.intro ?_ ?_; · first | trivial | omega | (intro hg; simp only [Bool.and_eq_true, Bool.or_eq_true, Bool.not_eq_true', Bool.and_eq_false_iff, Bool.or_eq_false_iff, Bool.not_eq_false', decide_eq_true_eq, decide_eq_false_iff_not, eqNil] at hg; omega) )
    try simp only [thenA_normal]
    refine ⟨i + 1, ?_, Sub.refl _, by omega, by omega⟩
    rw [List.cons_append, ← List.replicate_succ']
    rfl
  · try simp only [decide_eq_false_iff_not] at hb1
    have hin : n = i := by omega
    have hall : (49 :: List.replicate i (48 : UInt8)).all dg = true := by rw [List.all_cons, all_zeros]; rfl
    refine awp_exit ?_
    change Awp _ _ _ _ _ _ _
    -- region 6  law.go:89
    refine awp_rseq [4] (by rfl) fun K hK => ?_
    simp (decide := true) only [ev, putD, Slots.put, Slots.get, if_true, if_false, true_and, ↓ap_move, pop_move]
    repeat (with_reducible refine And.intro ?_ ?_; · first | trivial | omega | (intro hg; simp only [Bool.and_eq_true, Bool.or_eq_true, Bool.not_eq_true', Bool.and_eq_false_iff, Bool.or_eq_false_iff, Bool.not_eq_false', decide_eq_true_eq, decide_eq_false_iff_not, eqNil] at hg; omega) )
    refine aOps_callV (V := decA (canon false (10 ^ n.toNat) s.toNat)) (by rfl) (by rfl) ((c_Normal w₀ _ false _ _ hall (by simp; omega) s0 (by omega)).val (by rw [natOf_cons, natOf_zeros, List.length_replicate, hin]; congr 2; simp [dv])) ?_
    refine aOps_store (by rfl) (by rfl) (by repeat (first | exact AHeap.set_same _ _ _ | assumption | refine (AHeap.set_ne _ _ (by first | assumption | exact Ne.symm (by assumption))).trans ?_)) sz28 (by rfl) (by rfl) (by first | exact Nat.le_refl _ | decide | (simp; done) | (simp; omega)) (Nat.zero_le _) (by rfl) ?_
    simp only [AHeap.set_set, AVal.cells]
    simp (decide := true) only [aOps_nil, ev, putD, Slots.put, Slots.get, Slots.keep, if_true, if_false, setAt, List.set_cons_zero, List.set_cons_succ, Nat.zero_add, Nat.reduceAdd, decA]
    repeat (with_reducible refine And.intro ?_ ?_; · first | trivial | omega | (intro hg; simp only [Bool.and_eq_true, Bool.or_eq_true, Bool.not_eq_true', Bool.and_eq_false_iff, Bool.or_eq_false_iff, Bool.not_eq_false', decide_eq_true_eq, decide_eq_false_iff_not, eqNil] at hg; omega) )
    apply hK; clear hK K
    refine awp_ret ?_
    try simp only [thenA_ret, inBlockA_ret]
    refine retA_ret h (by repeat (first | exact Sub.refl _ | refine Sub.trans_set ?_ (by assumption))) (?_) ?_
    · simp (decide := true) only [resPre, resV_cell, Slots.get, if_true, and_true, resV_cell, pLoad_agg ag28 sz28, rd_set, cellsAt, List.getD_cons_zero, List.getD_cons_succ, Nat.zero_add, Nat.reduceAdd, lv_bool, lv_int, lv_str, allLive, Bool.and_true, cellsAt, List.getD_cons_zero, List.getD_cons_succ, Nat.zero_add, Nat.reduceAdd, lv_bool, lv_int, lv_str, allLive, Bool.and_true]
    
    simp (decide := true) only [Slots.get, if_true, and_true, resOfG_one, resV_cell, pLoad_agg ag28 sz28, rd_set, cellsAt, List.getD_cons_zero, List.getD_cons_succ, Nat.zero_add, Nat.reduceAdd, lv_bool, lv_int, lv_str, allLive, Bool.and_true, cellsAt, List.getD_cons_zero, List.getD_cons_succ, Nat.zero_add, Nat.reduceAdd, lv_bool, lv_int, lv_str, allLive, Bool.and_true, decA]
    all_goals first | rfl | exact ⟨rfl, rfl⟩ | (simp (decide := true) only [if_true, if_false, *]; done) | (trace_state; fail)
end Go.Proofs.YtnaioficflbioaaDoor
