/-
  Contract: Cut of the package decimals.
  Conditions: none.
-/
import Derived.Test.YthiiakghjoeikaaGreatDoorDcH
set_option linter.unusedSimpArgs false
set_option linter.unnecessarySimpa false
set_option linter.unusedVariables false
namespace Go.Proofs.YthiiakghjoeikaaGreatDoor
open Go.AM
open Go.Proofs
open Go.Dec
open Go.Lib (decDigits)
set_option maxRecDepth 100000

theorem trimB_nil (s : List UInt8) (c : UInt8) : decide (Go.Lib.trimB s c = []) = s.all (· == c) := by
  unfold Go.Lib.trimB Go.Lib.trimLeftB Go.Lib.trimRightB
  rw [Bool.eq_iff_iff, decide_eq_true_eq, dropWhile_nil, List.all_eq_true]
  constructor
  · intro h b hb
    by_cases hd : (b == c) = true
    · exact hd
    · have hm : b ∈ s.reverse.dropWhile (· == c) := by
        have := List.takeWhile_append_dropWhile (p := (· == c)) (l := s.reverse)
        have hb' : b ∈ s.reverse := by simpa using hb
        rw [← this, List.mem_append] at hb'
        rcases hb' with h1 | h1
        · exact absurd (takeWhile_all (· == c) _ _ h1) hd
        · exact h1
      exact h b (by simpa using hm)
  · intro h b hb
    refine h b ?_
    have : b ∈ s.reverse.dropWhile (· == c) := by simpa using hb
    have := (List.dropWhile_sublist (p := (· == c)) (l := s.reverse)).mem this
    simpa using this
theorem trim_zero (s : List UInt8) (hs : s.all dg = true) : decide (Go.Lib.trimB s 48 = []) = decide (natOf s = 0) := by
  rw [trimB_nil, Bool.eq_iff_iff, List.all_eq_true, decide_eq_true_eq, natOf_zero_iff s hs]
  simp

def cutE (d : D) (scale : Int) : D × Bool × Int :=
  if checkE d = 0 then
    if d.scale ≤ scale then (d, true, 0)
    else ((normE d.neg (natOf d.dig / 10 ^ (d.scale - scale).toNat * 10 ^ (d.scale - scale).toNat) d.scale).1, decide (natOf d.dig % 10 ^ (d.scale - scale).toNat = 0),
      (normE d.neg (natOf d.dig / 10 ^ (d.scale - scale).toNat * 10 ^ (d.scale - scale).toNat) d.scale).2)
  else (noD, false, 1)

theorem cut_min (s : List UInt8) (hs : s.all dg = true) (k : Nat) : natOf s / 10 ^ (min s.length k) * 10 ^ (min s.length k) = natOf s / 10 ^ k * 10 ^ k ∧ natOf s % 10 ^ (min s.length k) = natOf s % 10 ^ k := by
  rcases Nat.le_total k s.length with c | c
  · rw [Nat.min_eq_right c]; exact ⟨rfl, rfl⟩
  · rw [Nat.min_eq_left c]
    have h1 := natOf_lt s hs
    have h2 : 10 ^ s.length ≤ 10 ^ k := Nat.pow_le_pow_right (by omega) c
    rw [Nat.div_eq_of_lt h1, Nat.div_eq_of_lt (by omega), Nat.mod_eq_of_lt h1, Nat.mod_eq_of_lt (by omega)]
    simp

theorem c_Cut (w₀ : World) (h : AHeap) (d : D) (scale : Int) (hl : d.dig.length ≤ 9223372036854775807) (h0 : -9223372036854775808 ≤ scale) (h1 : scale ≤ 9223372036854775807) :
    ACall Tryz.prog w₀ 32 [decA d, .int .i64 scale] h (fun v h' => v = .tuple [decA (cutE d scale).1, .bool (cutE d scale).2.1, .int .i64 (cutE d scale).2.2] ∧ h' = h) := by
  refine acall_intro (n := 66) (rs := [.cell 4 27, .tmp 5, .tmp 6]) Tryz.func32 rfl rfl rfl rfl (Nat.le_of_ble_eq_true rfl) ?_
  simp only [initSlots]
  -- region 0  decimals.go:309
  refine awp_rseq [1, 2, 4] (by rfl) fun K hK => ?_
  refine aOps_box (by rfl) (by rfl) (by rfl) fun k0q0 hk0q0 => ?_
  skip
  refine aOps_alloc ze27 (cs := [.bool false, .str [], .int .i64 0]) (by rfl) fun k0q1 hk0q1 => ?_
  have hne := AHeap.ne_of hk0q1
  simp (decide := true) only [aOps_nil, ev, absV, absS, putD, Slots.put, Slots.get, Slots.keep, if_true, if_false, true_and, ↓ap_assign, pop_assign, AVal.cells, Nat.zero_add, decA]
  repeat (with_reducible refine And.intro ?_ ?_; · first | trivial | omega | (intro hg; simp only [Bool.and_eq_true, Bool.or_eq_true, Bool.not_eq_true', Bool.and_eq_false_iff, Bool.or_eq_false_iff, Bool.not_eq_false', decide_eq_true_eq, decide_eq_false_iff_not, eqNil] at hg; omega) )
  apply hK; clear hK K
  refine awp_seq ?_
  -- region 1  decimals.go:310
  refine awp_rseq [1, 2, 4, 7] (by rfl) fun K hK => ?_
  simp (decide := true) only [ev, putD, Slots.put, Slots.get, if_true, if_false, true_and, ↓ap_loadL, apL_mk, pLoad_agg ag27 sz27, rd_any, cellsAt, List.getD_cons_zero, List.getD_cons_succ, Nat.zero_add, Nat.reduceAdd, lv_bool, lv_int, lv_str, allLive, Bool.and_true, rd_ne _ _ _ hne]
  repeat (with_reducible refine And.intro ?_ ?_; · first | trivial | omega | (intro hg; simp only [Bool.and_eq_true, Bool.or_eq_true, Bool.not_eq_true', Bool.and_eq_false_iff, Bool.or_eq_false_iff, Bool.not_eq_false', decide_eq_true_eq, decide_eq_false_iff_not, eqNil] at hg; omega) )
  refine aOps_callV (V := .int .i64 (checkE d)) (by rfl) (by rfl) (c_Check w₀ _ d hl) ?_
  simp (decide := true) only [aOps_nil, ev, putD, Slots.put, Slots.get, Slots.keep, if_true, if_false, true_and, ↓ap_assign, pop_assign]
  repeat (with_reducible refine And.intro ?_ ?_; · first | trivial | omega | (intro hg; simp only [Bool.and_eq_true, Bool.or_eq_true, Bool.not_eq_true', Bool.and_eq_false_iff, Bool.or_eq_false_iff, Bool.not_eq_false', decide_eq_true_eq, decide_eq_false_iff_not, eqNil] at hg; omega) )
  apply hK; clear hK K
  -- region 2  decimals.go:310
  refine awp_rseq [1, 2, 4, 7, 15] (by rfl) fun K hK => ?_
  simp (decide := true) only [aOps_nil, ev, absV, absS, putD, Slots.put, Slots.get, Slots.keep, if_true, if_false, true_and, ↓ap_move, pop_move, ↓ap_binOp, pop_binOp, isNilC_int, cond_false, pBinX_int, pI_neq]
  repeat (with_reducible refine And.intro ?_ ?_; · first | trivial | omega | (intro hg; simp only [Bool.and_eq_true, Bool.or_eq_true, Bool.not_eq_true', Bool.and_eq_false_iff, Bool.or_eq_false_iff, Bool.not_eq_false', decide_eq_true_eq, decide_eq_false_iff_not, eqNil] at hg; omega) )
  apply hK; clear hK K
  refine awp_cond (b := _) rfl (fun hb1 => ?_) (fun hb1 => ?_)
  · try simp only [decide_eq_false_iff_not, Bool.not_eq_true'] at hb1
    -- region 3  decimals.go:311
    refine awp_rseq [4, 5, 6] (by rfl) fun K hK => ?_
    simp (decide := true) only [ev, absV, absS, putD, Slots.put, Slots.get, if_true, if_false, true_and, ↓ap_build, ↓pop_buildL, bld27_, evP, List.map_nil, ↓ap_move, pop_move]
    repeat (with_reducible refine And.intro ?_ ?_; · first | trivial | omega | (intro hg; simp only [Bool.and_eq_true, Bool.or_eq_true, Bool.not_eq_true', Bool.and_eq_false_iff, Bool.or_eq_false_iff, Bool.not_eq_false', decide_eq_true_eq, decide_eq_false_iff_not, eqNil] at hg; omega) )
    refine aOps_store (by rfl) (by rfl) (AHeap.set_same _ _ _) sz27 (by rfl) (by rfl) (by first | exact Nat.le_refl _ | decide | (simp; done) | (simp; omega)) (Nat.zero_le _) (by rfl) ?_
    simp only [AHeap.set_set, AVal.cells]
    simp (decide := true) only [aOps_nil, ev, absV, absS, putD, Slots.put, Slots.get, Slots.keep, if_true, if_false, true_and, ↓ap_assign, pop_assign, setAt, List.set_cons_zero, List.set_cons_succ, Nat.zero_add, Nat.reduceAdd]
    repeat (with_reducible refine And.intro ?_ ?_; · first | trivial | omega | (intro hg; simp only [Bool.and_eq_true, Bool.or_eq_true, Bool.not_eq_true', Bool.and_eq_false_iff, Bool.or_eq_false_iff, Bool.not_eq_false', decide_eq_true_eq, decide_eq_false_iff_not, eqNil] at hg; omega) )
    apply hK; clear hK K
    refine awp_ret ?_
    try simp only [thenA_ret]
    refine retA_ret h ((Sub.set hk0q0).trans (Sub.set hk0q1)) (?_) ?_
    · simp (decide := true) only [resPre, resV_tmp, resV_cell, Slots.get, if_true, if_false, and_true, resV_tmp, resV_cell, pLoad_agg ag27 sz27, rd_set, cellsAt, List.getD_cons_zero, List.getD_cons_succ, Nat.zero_add, Nat.reduceAdd, lv_bool, lv_int, lv_str, allLive, Bool.and_true, cellsAt, List.getD_cons_zero, List.getD_cons_succ, Nat.zero_add, Nat.reduceAdd, lv_bool, lv_int, lv_str, allLive, Bool.and_true]
    
    simp (decide := true) only [Slots.get, if_true, if_false, and_true, resOfG_three, resV_tmp, resV_cell, pLoad_agg ag27 sz27, rd_set, cellsAt, List.getD_cons_zero, List.getD_cons_succ, Nat.zero_add, Nat.reduceAdd, lv_bool, lv_int, lv_str, allLive, Bool.and_true, cellsAt, List.getD_cons_zero, List.getD_cons_succ, Nat.zero_add, Nat.reduceAdd, lv_bool, lv_int, lv_str, allLive, Bool.and_true, decA]
    have e1 := checkE_01 d
    rw [cutE, if_neg hb1, show checkE d = 1 by omega]
    rfl
  · try simp only [decide_eq_true_eq, Bool.not_eq_false'] at hb1
    obtain ⟨sd, dd, nd, _⟩ := Small_of_check hb1
    have ha1 := sd.l
    have ha2 := sd.s0
    have ha3 := sd.s1
    refine awp_skip ?_
    change Awp _ _ _ _ _ _ _
    refine awp_seq ?_
    -- region 4  decimals.go:313
    refine awp_rseq [1, 2, 4, 21] (by rfl) fun K hK => ?_
    simp (decide := true) only [aOps_nil, ev, putD, Slots.put, Slots.get, Slots.keep, if_true, if_false, true_and, ↓ap_move, pop_move, ↓ap_fieldAddr, pop_fieldAddr, fa27_2, ↓ap_loadL, apL_mk, pLoad_one ag3, ↓ap_binOp, pop_binOp, isNilC_tmp, cond_false, pBinX_int, pI_geq, rd_any, List.getD_cons_zero, List.getD_cons_succ, Nat.zero_add, lv_int, rd_ne _ _ _ hne]
    repeat (with_reducible refine And.intro ?_ ?_; · first | trivial | omega | (intro hg; simp only [Bool.and_eq_true, Bool.or_eq_true, Bool.not_eq_true', Bool.and_eq_false_iff, Bool.or_eq_false_iff, Bool.not_eq_false', decide_eq_true_eq, decide_eq_false_iff_not, eqNil] at hg; omega) )
    apply hK; clear hK K
    refine awp_cond (b := _) rfl (fun hb2 => ?_) (fun hb2 => ?_)
    · try simp only [decide_eq_true_eq] at hb2
      -- region 5  decimals.go:314
      refine awp_rseq [4, 5, 6] (by rfl) fun K hK => ?_
      simp (decide := true) only [ev, putD, Slots.put, Slots.get, if_true, if_false, true_and, ↓ap_loadL, apL_mk, pLoad_agg ag27 sz27, rd_any, cellsAt, List.getD_cons_zero, List.getD_cons_succ, Nat.zero_add, Nat.reduceAdd, lv_bool, lv_int, lv_str, allLive, Bool.and_true, rd_ne _ _ _ hne]
      repeat (with_reducible refine And.intro ?_ ?_; · first | trivial | omega | (intro hg; simp only [Bool.and_eq_true, Bool.or_eq_true, Bool.not_eq_true', Bool.and_eq_false_iff, Bool.or_eq_false_iff, Bool.not_eq_false', decide_eq_true_eq, decide_eq_false_iff_not, eqNil] at hg; omega) )
      refine aOps_store (by rfl) (by rfl) (AHeap.set_same _ _ _) sz27 (by rfl) (by rfl) (by first | exact Nat.le_refl _ | decide | (simp; done) | (simp; omega)) (Nat.zero_le _) (by rfl) ?_
      simp only [AHeap.set_set, AVal.cells]
      simp (decide := true) only [aOps_nil, ev, absV, absS, putD, Slots.put, Slots.get, Slots.keep, if_true, if_false, true_and, ↓ap_assign, pop_assign, setAt, List.set_cons_zero, List.set_cons_succ, Nat.zero_add, Nat.reduceAdd]
      repeat (with_reducible refine And.intro ?_ ?_; · first | trivial | omega | (intro hg; simp only [Bool.and_eq_true, Bool.or_eq_true, Bool.not_eq_true', Bool.and_eq_false_iff, Bool.or_eq_false_iff, Bool.not_eq_false', decide_eq_true_eq, decide_eq_false_iff_not, eqNil] at hg; omega) )
      apply hK; clear hK K
      refine awp_ret ?_
      try simp only [thenA_ret]
      refine retA_ret h ((Sub.set hk0q0).trans (Sub.set hk0q1)) (?_) ?_
      · simp (decide := true) only [resPre, resV_tmp, resV_cell, Slots.get, if_true, if_false, and_true, resV_tmp, resV_cell, pLoad_agg ag27 sz27, rd_set, cellsAt, List.getD_cons_zero, List.getD_cons_succ, Nat.zero_add, Nat.reduceAdd, lv_bool, lv_int, lv_str, allLive, Bool.and_true, cellsAt, List.getD_cons_zero, List.getD_cons_succ, Nat.zero_add, Nat.reduceAdd, lv_bool, lv_int, lv_str, allLive, Bool.and_true]
      
      simp (decide := true) only [Slots.get, if_true, if_false, and_true, resOfG_three, resV_tmp, resV_cell, pLoad_agg ag27 sz27, rd_set, cellsAt, List.getD_cons_zero, List.getD_cons_succ, Nat.zero_add, Nat.reduceAdd, lv_bool, lv_int, lv_str, allLive, Bool.and_true, cellsAt, List.getD_cons_zero, List.getD_cons_succ, Nat.zero_add, Nat.reduceAdd, lv_bool, lv_int, lv_str, allLive, Bool.and_true, decA]
      rw [cutE, if_pos hb1, if_pos hb2]
    · try simp only [decide_eq_false_iff_not] at hb2
      refine awp_skip ?_
      change Awp _ _ _ _ _ _ _
      -- region 6  decimals.go:316
      refine awp_rseq [1, 2, 4, 8] (by rfl) fun K hK => ?_
      simp (decide := true) only [aOps_nil, ev, putD, Slots.put, Slots.get, Slots.keep, if_true, if_false, true_and, ↓ap_fieldAddr, pop_fieldAddr, fa27_1, ↓ap_loadL, apL_mk, pLoad_one ag9, ↓ap_len, pop_len, pLen_str Tryz.underlying9, ↓ap_assign, pop_assign, rd_any, List.getD_cons_zero, List.getD_cons_succ, Nat.zero_add, lv_str, rd_ne _ _ _ hne]
      repeat (with_reducible refine And.intro ?_ ?_; · first | trivial | omega | (intro hg; simp only [Bool.and_eq_true, Bool.or_eq_true, Bool.not_eq_true', Bool.and_eq_false_iff, Bool.or_eq_false_iff, Bool.not_eq_false', decide_eq_true_eq, decide_eq_false_iff_not, eqNil] at hg; omega) )
      apply hK; clear hK K
      refine awp_seq ?_
      -- region 7  decimals.go:317
      refine awp_rseq [1, 2, 4, 8, 27] (by rfl) fun K hK => ?_
      simp (decide := true) only [aOps_nil, ev, absV, absS, putD, Slots.put, Slots.get, Slots.keep, if_true, if_false, true_and, ↓ap_move, pop_move, ↓ap_binOp, pop_binOp, isNilC_int, cond_false, pBinX_int, pI_gtr]
      repeat (with_reducible refine And.intro ?_ ?_; · first | trivial | omega | (intro hg; simp only [Bool.and_eq_true, Bool.or_eq_true, Bool.not_eq_true', Bool.and_eq_false_iff, Bool.or_eq_false_iff, Bool.not_eq_false', decide_eq_true_eq, decide_eq_false_iff_not, eqNil] at hg; omega) )
      apply hK; clear hK K
      refine awp_joinT [2, 4, 8] (fun m : Nat => [(2, .ptr (.own k0q0) 0), (4, .ptr (.own k0q1) 0), (8, .int .i64 m)]) (fun m : Nat => (h.set k0q0 ⟨[.bool d.neg, .str d.dig, .int .i64 d.scale], 0⟩).set k0q1 ⟨[.bool false, .str [], .int .i64 0], 0⟩) (fun m : Nat => m = min d.dig.length (d.scale - scale).toNat) ?_ ?_
      · refine awp_cond (b := _) rfl (fun hb3 => ?_) (fun hb3 => ?_)
        · try simp only [decide_eq_true_eq] at hb3
          -- region 8  decimals.go:318
          refine awp_r [2, 4, 8] (by rfl) ?_
          simp (decide := true) only [aOps_nil, ev, putD, Slots.put, Slots.get, Slots.keep, if_true, if_false, true_and, ↓ap_move, pop_move, ↓ap_fieldAddr, pop_fieldAddr, fa27_2, ↓ap_loadL, apL_mk, pLoad_one ag3, ↓ap_binOp, pop_binOp, isNilC_tmp, cond_false, pBinX_int, pI_sub, ↓ap_min, pop_min, pMin_int, evs, List.map_cons, List.map_nil, ↓ap_assign, pop_assign, rd_any, List.getD_cons_zero, List.getD_cons_succ, Nat.zero_add, lv_int, decA, rd_ne _ _ _ hne]
          try simp (disch := omega) only [wrap_i64]
          repeat (with_reducible refine And.intro ?_ ?_; · first | trivial | omega | (intro hg; simp only [Bool.and_eq_true, Bool.or_eq_true, Bool.not_eq_true', Bool.and_eq_false_iff, Bool.or_eq_false_iff, Bool.not_eq_false', decide_eq_true_eq, decide_eq_false_iff_not, eqNil] at hg; omega) )
          try simp only [thenA_normal]
          refine ⟨min d.dig.length (d.scale - scale).toNat, ?_, Sub.refl _, rfl⟩
          first
          | (rw [show min (d.dig.length : Int) (d.scale - scale) = ((min d.dig.length (d.scale - scale).toNat : Nat) : Int) by omega]; rfl)
          | (rw [show (d.dig.length : Int) = ((min d.dig.length (d.scale - scale).toNat : Nat) : Int) by omega]; rfl)
        · try simp only [decide_eq_false_iff_not] at hb3
          refine awp_skip ?_
          try simp only [thenA_normal]
          refine ⟨min d.dig.length (d.scale - scale).toNat, ?_, Sub.refl _, rfl⟩
          first
          | (rw [show min (d.dig.length : Int) (d.scale - scale) = ((min d.dig.length (d.scale - scale).toNat : Nat) : Int) by omega]; rfl)
          | (rw [show (d.dig.length : Int) = ((min d.dig.length (d.scale - scale).toNat : Nat) : Int) by omega]; rfl)
      · intro m hm
        have hml : m ≤ d.dig.length := by omega
        have hidx : ((d.dig.length : Int) - m).toNat = d.dig.length - m := by omega
        obtain ⟨sp1, sp2⟩ := natOf_split d.dig dd m hml
        obtain ⟨mn1, mn2⟩ := cut_min d.dig dd (d.scale - scale).toNat
        rw [← hm] at mn1 mn2
        have hlost : List.take (d.dig.length - (d.dig.length - m)) (List.drop (d.dig.length - m) d.dig) = List.drop (d.dig.length - m) d.dig := List.take_of_length_le (by simp)
        have hdrop : (List.drop (d.dig.length - m) d.dig).all dg = true := by
          rw [List.all_eq_true] at dd ⊢
          exact fun b hb => dd b (List.mem_of_mem_drop hb)
        have htake : (List.take (d.dig.length - m) d.dig ++ List.replicate m 48).all dg = true := by
          rw [all_append, all_zeros, Bool.and_true, List.all_eq_true]
          rw [List.all_eq_true] at dd
          exact fun b hb => dd b (List.mem_of_mem_take hb)
        -- region 9  decimals.go:320
        refine awp_rseq [2, 4, 8, 9] (by rfl) fun K hK => ?_
        simp (decide := true) only [ev, putD, Slots.put, Slots.get, if_true, if_false, true_and, ↓ap_fieldAddr, pop_fieldAddr, fa27_1, ↓ap_loadL, apL_mk, pLoad_one ag9, ↓ap_len, pop_len, pLen_str Tryz.underlying9, ↓ap_move, pop_move, ↓ap_binOp, pop_binOp, isNilC_tmp, cond_false, pBinX_int, pI_sub, rd_any, List.getD_cons_zero, List.getD_cons_succ, Nat.zero_add, lv_str, rd_ne _ _ _ hne]
        try simp (disch := omega) only [wrap_i64]
        try simp (decide := true) only [aOps_nil, ev, putD, Slots.put, Slots.get, Slots.keep, if_true, if_false, true_and, ↓ap_slice, pop_slice, evO, pSliceS_i0 Tryz.underlying9, pSliceS, bndA_none, bndA_int, ↓ap_assign, pop_assign, hidx, Int.toNat_natCast, hlost]
        repeat (with_reducible refine And.intro ?_ ?_; · first | trivial | omega | (intro hg; simp only [Bool.and_eq_true, Bool.or_eq_true, Bool.not_eq_true', Bool.and_eq_false_iff, Bool.or_eq_false_iff, Bool.not_eq_false', decide_eq_true_eq, decide_eq_false_iff_not, eqNil] at hg; omega) )
        apply hK; clear hK K
        -- region 10  decimals.go:321
        refine awp_dseq_F 20 [18] [4, 9, 10, 11] mixed (by kernel_rfl) (by rfl) fun K hK => ?_
        simp only [List.take_succ_cons, List.take_zero, List.drop_succ_cons, List.drop_zero]
        simp (decide := true) only [ev, putD, Slots.put, Slots.get, if_true, if_false, true_and, ↓fp_fieldAddr, pop_fieldAddr, fa27_0, ↓fp_load, pop_load, pLoad_one ag4, fa27_1, pLoad_one ag9, ↓fp_len, pop_len, pLen_str Tryz.underlying9, ↓fp_move, pop_move, ↓fp_binOp, pop_binOp, isNilC_tmp, cond_false, pBinX_int, pI_sub, ↓fp_slice, pop_slice, evO, pSliceS_0i Tryz.underlying9, pSliceS, bndA_none, bndA_int, rd_any, List.getD_cons_zero, List.getD_cons_succ, Nat.zero_add, lv_bool, lv_str, rd_ne _ _ _ hne, Int.toNat_natCast, List.drop_zero, Nat.sub_zero]
        try simp (disch := omega) only [wrap_i64]
        repeat (with_reducible refine And.intro ?_ ?_; · first | trivial | omega | (intro hg; simp only [Bool.and_eq_true, Bool.or_eq_true, Bool.not_eq_true', Bool.and_eq_false_iff, Bool.or_eq_false_iff, Bool.not_eq_false', decide_eq_true_eq, decide_eq_false_iff_not, eqNil] at hg; omega) )
        refine fOps_callV (V := .str (List.replicate m 48)) (by rfl) (by rfl) (by first | trivial | (simp (decide := true) only [AVal.okIn, okInL, and_true, true_and, decA, AHeap.set_same, Option.isSome_some]; done) | (simp [AVal.okIn, okInL, AHeap.set]; done)) (fun g hg => c_repeat w₀ _ 48 m (by omega)) ?_
        simp (decide := true) only [ev, putD, Slots.put, Slots.get, if_true, if_false, true_and, ↓fp_binOp, pop_binOp, isNilC_tmp, cond_false, pBinX_str, pS_add, ↓fp_fieldAddr, pop_fieldAddr, fa27_2, ↓fp_load, pop_load, pLoad_one ag3, rd_any, List.getD_cons_zero, List.getD_cons_succ, Nat.zero_add, lv_int, rd_ne _ _ _ hne, hidx]
        repeat (with_reducible refine And.intro ?_ ?_; · first | trivial | omega | (intro hg; simp only [Bool.and_eq_true, Bool.or_eq_true, Bool.not_eq_true', Bool.and_eq_false_iff, Bool.or_eq_false_iff, Bool.not_eq_false', decide_eq_true_eq, decide_eq_false_iff_not, eqNil] at hg; omega) )
        refine And.intro (by simp; omega) ?_
        refine fOps_callV (V := .tuple [decA (normE d.neg (natOf d.dig / 10 ^ m * 10 ^ m) d.scale).1, .int .i64 (normE d.neg (natOf d.dig / 10 ^ m * 10 ^ m) d.scale).2]) (by rfl) (by rfl) (by first | trivial | (simp (decide := true) only [AVal.okIn, okInL, and_true, true_and, decA, AHeap.set_same, Option.isSome_some]; done) | (simp [AVal.okIn, okInL, AHeap.set]; done)) (fun g hg => (c_normal w₀ _ d.neg _ d.scale htake (by simp; omega) (by omega) (by omega)).val (by rw [natOf_append, natOf_zeros, List.length_replicate, sp1, Nat.add_zero])) ?_
        simp (decide := true) only [ev, putD, Slots.put, Slots.get, if_true, if_false, true_and, ↓fp_move, pop_move, ↓fp_extract, pop_extract, pExt_tuple, List.length_cons, List.length_nil, List.getD_cons_zero, List.getD_cons_succ, List.getD_cons_zero, List.getD_cons_succ, Nat.zero_add, Nat.reduceAdd, decA]
        repeat (with_reducible refine And.intro ?_ ?_; · first | trivial | omega | (intro hg; simp only [Bool.and_eq_true, Bool.or_eq_true, Bool.not_eq_true', Bool.and_eq_false_iff, Bool.or_eq_false_iff, Bool.not_eq_false', decide_eq_true_eq, decide_eq_false_iff_not, eqNil] at hg; omega) )
        refine fOps_lay (by rfl) ?_
        refine aOps_alloc ze27 (cs := [.bool false, .str [], .int .i64 0]) (by rfl) fun k10q19 hk10q19 => ?_
        have hneA := AHeap.ne_of hk10q19
        have hneB := AHeap.ne_of2 hk10q19
        rw [aOps_nil]
        repeat (with_reducible refine And.intro ?_ ?_; · first | trivial | omega | (intro hg; simp only [Bool.and_eq_true, Bool.or_eq_true, Bool.not_eq_true', Bool.and_eq_false_iff, Bool.or_eq_false_iff, Bool.not_eq_false', decide_eq_true_eq, decide_eq_false_iff_not, eqNil] at hg; omega) )
        try simp only [fOps_nil]
        refine aOps_store (by rfl) (by rfl) (AHeap.set_same _ _ _) sz27 (by rfl) (by rfl) (by first | exact Nat.le_refl _ | decide | (simp; done) | (simp; omega)) (Nat.zero_le _) (by rfl) ?_
        simp only [AHeap.set_set, AVal.cells]
        simp (decide := true) only [aOps_nil, ev, putD, Slots.put, Slots.get, Slots.keep, if_true, if_false, true_and, ↓ap_assign, pop_assign, setAt, List.set_cons_zero, List.set_cons_succ, Nat.zero_add, Nat.reduceAdd]
        repeat (with_reducible refine And.intro ?_ ?_; · first | trivial | omega | (intro hg; simp only [Bool.and_eq_true, Bool.or_eq_true, Bool.not_eq_true', Bool.and_eq_false_iff, Bool.or_eq_false_iff, Bool.not_eq_false', decide_eq_true_eq, decide_eq_false_iff_not, eqNil] at hg; omega) )
        apply hK; clear hK K
        -- region 11  decimals.go:322
        refine awp_dseq_F 5 [3, 4] [4, 5, 6] mixed (by kernel_rfl) (by rfl) fun K hK => ?_
        simp only [List.take_succ_cons, List.take_zero, List.drop_succ_cons, List.drop_zero]
        simp (decide := true) only [ev, putD, Slots.put, Slots.get, if_true, if_false, true_and, ↓fp_load, pop_load, pLoad_agg ag27 sz27, ↓fp_move, pop_move, rd_any, cellsAt, List.getD_cons_zero, List.getD_cons_succ, Nat.zero_add, Nat.reduceAdd, lv_bool, lv_int, lv_str, allLive, Bool.and_true]
        repeat (with_reducible refine And.intro ?_ ?_; · first | trivial | omega | (intro hg; simp only [Bool.and_eq_true, Bool.or_eq_true, Bool.not_eq_true', Bool.and_eq_false_iff, Bool.or_eq_false_iff, Bool.not_eq_false', decide_eq_true_eq, decide_eq_false_iff_not, eqNil] at hg; omega) )
        refine fOps_callV (V := .str (Go.Lib.trimB (List.drop (d.dig.length - m) d.dig) 48)) (by rfl) (by rfl) (by first | trivial | (simp (decide := true) only [AVal.okIn, okInL, and_true, true_and, decA, AHeap.set_same, Option.isSome_some]; done) | (simp [AVal.okIn, okInL, AHeap.set]; done)) (fun g hg => c_trim0 w₀ _ _ 48 (by decide) (by simp; omega)) ?_
        simp (decide := true) only [fOps_nil, ev, absV, absS, putD, Slots.put, Slots.get, if_true, if_false, true_and, ↓fp_binOp, pop_binOp, isNilC_str, cond_false, pBinX_str, pS_eql, ↓fp_move, pop_move]
        repeat (with_reducible refine And.intro ?_ ?_; · first | trivial | omega | (intro hg; simp only [Bool.and_eq_true, Bool.or_eq_true, Bool.not_eq_true', Bool.and_eq_false_iff, Bool.or_eq_false_iff, Bool.not_eq_false', decide_eq_true_eq, decide_eq_false_iff_not, eqNil] at hg; omega) )
        try simp only [vOps_nil, fOps_nil]
        refine aOps_store (b := ⟨[.bool false, .str [], .int .i64 0], 0⟩) (by rfl) (by rfl) (by rw [AHeap.set_ne _ _ hneA, AHeap.set_same]) sz27 (by rfl) (by rfl) (by simp) (Nat.zero_le _) (by rfl) ?_
        rw [AHeap.set_comm _ _ _ hneA, AHeap.set_set]
        simp (decide := true) only [aOps_nil, ev, putD, Slots.put, Slots.get, Slots.keep, if_true, if_false, true_and, ↓ap_assign, pop_assign, AVal.cells, setAt, List.set_cons_zero, List.set_cons_succ, Nat.zero_add, Nat.reduceAdd]
        repeat (with_reducible refine And.intro ?_ ?_; · first | trivial | omega | (intro hg; simp only [Bool.and_eq_true, Bool.or_eq_true, Bool.not_eq_true', Bool.and_eq_false_iff, Bool.or_eq_false_iff, Bool.not_eq_false', decide_eq_true_eq, decide_eq_false_iff_not, eqNil] at hg; omega) )
        apply hK; clear hK K
        refine awp_ret ?_
        try simp only [thenA_ret, inBlockA_ret]
        refine retA_ret h ((Sub.two hk0q0 hk0q1).trans_set ((Sub.two hk0q0 hk0q1).none hk10q19)) (?_) ?_
        · simp (decide := true) only [resPre, resV_tmp, resV_cell, Slots.get, if_true, if_false, and_true, resV_tmp, resV_cell, pLoad_agg ag27 sz27, rd_set, cellsAt, List.getD_cons_zero, List.getD_cons_succ, Nat.zero_add, Nat.reduceAdd, lv_bool, lv_int, lv_str, allLive, Bool.and_true, cellsAt, List.getD_cons_zero, List.getD_cons_succ, Nat.zero_add, Nat.reduceAdd, lv_bool, lv_int, lv_str, allLive, Bool.and_true, rd_ne _ _ _ hneA]
        
        simp (decide := true) only [Slots.get, if_true, if_false, and_true, resOfG_three, resV_tmp, resV_cell, pLoad_agg ag27 sz27, rd_set, cellsAt, List.getD_cons_zero, List.getD_cons_succ, Nat.zero_add, Nat.reduceAdd, lv_bool, lv_int, lv_str, allLive, Bool.and_true, cellsAt, List.getD_cons_zero, List.getD_cons_succ, Nat.zero_add, Nat.reduceAdd, lv_bool, lv_int, lv_str, allLive, Bool.and_true, decA, rd_ne _ _ _ hneA]
        rw [trim_zero _ hdrop, sp2, mn2, mn1, cutE, if_pos hb1, if_neg hb2]
end Go.Proofs.YthiiakghjoeikaaGreatDoor
