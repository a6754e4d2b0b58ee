/-
  Texts of this proof, joined: DcB, DcC, DcD, DcE, DcF, DcG, DcH, DcI, LwA, PlE, AmX.
  Conditions: none.
-/
import Derived.Test.YthiiakghjoeikaaGreatDoorQb
import Derived.Lib.SmallJoins
import Derived.Lib.AppendIntMem
set_option linter.unusedSimpArgs false
set_option linter.unnecessarySimpa false
set_option linter.unusedVariables false
/-
  Contracts: normal of the package decimals.
  Conditions: none.
-/
namespace Go.Proofs.YthiiakghjoeikaaGreatDoor
open Go.AM
open Go.Proofs
open Go.Dec
open Go.Lib (decDigits)
set_option maxRecDepth 100000

def decA (d : D) : AVal := .agg [.bool d.neg, .str d.dig, .int .i64 d.scale]

theorem c_normal (w₀ : World) (h : AHeap) (neg : Bool) (s : List UInt8) (scale : Int) (hs : s.all dg = true) (hl : s.length ≤ 1073741824) (h0 : -1073741824 ≤ scale) (h1 : scale ≤ 1073741824) :
    ACall Tryz.prog w₀ 45 [.bool neg, .str s, .int .i64 scale] h (fun v h' => v = .tuple [decA (normE neg (natOf s) scale).1, .int .i64 (normE neg (natOf s) scale).2] ∧ h' = h) := by
  have hlen := natOf_lt s hs
  refine acall_intro (n := 43) (rs := [.cell 6 27, .tmp 7]) Tryz.func45 rfl rfl rfl rfl (Nat.le_of_ble_eq_true rfl) ?_
  simp only [initSlots]
  -- region 0  decimals.go:35
  refine awp_rseq [0, 1, 2, 6] (by rfl) fun K hK => ?_
  refine aOps_alloc ze27 (cs := [.bool false, .str [], .int .i64 0]) (by rfl) fun k0q0 hk0q0 => ?_
  simp (decide := true) only [aOps_nil, ev, absV, absS, putD, Slots.put, Slots.keep, if_true, if_false, true_and, ↓ap_assign, pop_assign]
  repeat (with_reducible refine And.intro ?_ ?_; · first | trivial | omega | (intro hg; simp only [Bool.and_eq_true, Bool.or_eq_true, Bool.not_eq_true', Bool.and_eq_false_iff, Bool.or_eq_false_iff, Bool.not_eq_false', decide_eq_true_eq, decide_eq_false_iff_not, eqNil] at hg; omega) )
  apply hK; clear hK K
  -- region 1  decimals.go:36
  refine awp_rseq [0, 1, 2, 6] (by rfl) fun K hK => ?_
  simp (decide := true) only [ev, putD, Slots.put, Slots.get, if_true, if_false, true_and, ↓ap_move, pop_move]
  repeat (with_reducible refine And.intro ?_ ?_; · first | trivial | omega | (intro hg; simp only [Bool.and_eq_true, Bool.or_eq_true, Bool.not_eq_true', Bool.and_eq_false_iff, Bool.or_eq_false_iff, Bool.not_eq_false', decide_eq_true_eq, decide_eq_false_iff_not, eqNil] at hg; omega) )
  refine aOps_callV (V := .str (s.dropWhile (· == 48))) (by rfl) (by rfl) (c_trimLeft0 w₀ _ s 48 (by decide)) ?_
  simp (decide := true) only [aOps_nil, ev, putD, Slots.put, Slots.get, Slots.keep, if_true, if_false, true_and, ↓ap_assign, pop_assign]
  rw [drop_zeros s hs]
  apply hK; clear hK K
  refine awp_seq ?_
  -- region 2  decimals.go:37
  refine awp_rseq [0, 1, 2, 6, 11] (by rfl) fun K hK => ?_
  simp (decide := true) only [aOps_nil, ev, absV, absS, putD, Slots.put, Slots.get, Slots.keep, if_true, if_false, true_and, ↓ap_move, pop_move, ↓ap_binOp, pop_binOp, isNilC_str, cond_false, pBinX_str, pS_eql]
  repeat (with_reducible refine And.intro ?_ ?_; · first | trivial | omega | (intro hg; simp only [Bool.and_eq_true, Bool.or_eq_true, Bool.not_eq_true', Bool.and_eq_false_iff, Bool.or_eq_false_iff, Bool.not_eq_false', decide_eq_true_eq, decide_eq_false_iff_not, eqNil] at hg; omega) )
  apply hK; clear hK K
  refine awp_cond (b := _) rfl (fun hb1 => ?_) (fun hb1 => ?_)
  · try simp only [decide_eq_true_eq] at hb1
    -- region 3  decimals.go:38
    refine awp_rseq [6, 7] (by rfl) fun K hK => ?_
    simp (decide := true) only [ev, absV, absS, putD, Slots.put, Slots.get, if_false, true_and, ↓ap_build, ↓pop_buildL, bld27_1, evP, List.map_cons, List.map_nil]
    repeat (with_reducible refine And.intro ?_ ?_; · first | trivial | omega | (intro hg; simp only [Bool.and_eq_true, Bool.or_eq_true, Bool.not_eq_true', Bool.and_eq_false_iff, Bool.or_eq_false_iff, Bool.not_eq_false', decide_eq_true_eq, decide_eq_false_iff_not, eqNil] at hg; omega) )
    refine aOps_store (by rfl) (by rfl) (AHeap.set_same _ _ _) sz27 (by rfl) (by rfl) (by first | exact Nat.le_refl _ | decide | (simp; done) | (simp; omega)) (Nat.zero_le _) (by rfl) ?_
    simp only [AHeap.set_set, AVal.cells, Nat.zero_add, Nat.reduceAdd]
    simp (decide := true) only [aOps_nil, ev, absV, absS, putD, Slots.put, Slots.get, Slots.keep, if_true, if_false, true_and, ↓ap_assign, pop_assign]
    repeat (with_reducible refine And.intro ?_ ?_; · first | trivial | omega | (intro hg; simp only [Bool.and_eq_true, Bool.or_eq_true, Bool.not_eq_true', Bool.and_eq_false_iff, Bool.or_eq_false_iff, Bool.not_eq_false', decide_eq_true_eq, decide_eq_false_iff_not, eqNil] at hg; omega) )
    apply hK; clear hK K
    refine awp_ret ?_
    try simp only [thenA_ret]
    refine retA_ret h (Sub.set hk0q0) (?_) ?_
    · simp (decide := true) only [resPre, resV_tmp, resV_cell, Slots.get, if_true, if_false, and_true, resV_tmp, resV_cell, pLoad_agg ag27 sz27, rd_set, cellsAt, List.getD_cons_zero, List.getD_cons_succ, Nat.zero_add, Nat.reduceAdd, setAt, List.set_cons_zero, List.set_cons_succ, lv_bool, lv_int, lv_str, allLive, Bool.and_true]
    
    simp (decide := true) only [Slots.get, if_true, if_false, and_true, resOfG_two, resV_tmp, resV_cell, pLoad_agg ag27 sz27, rd_set, cellsAt, List.getD_cons_zero, List.getD_cons_succ, Nat.zero_add, Nat.reduceAdd, setAt, List.set_cons_zero, List.set_cons_succ, lv_bool, lv_int, lv_str, allLive, Bool.and_true]
    have hn : natOf s = 0 := by
      by_cases hn : natOf s = 0
      · exact hn
      · rw [if_neg hn] at hb1; exact absurd hb1 (decDigits_ne _)
    rw [hn, normE_zero]; rfl
  · try simp only [decide_eq_false_iff_not] at hb1
    have hn : natOf s ≠ 0 := fun hn => hb1 (by rw [if_pos hn])
    simp only [if_neg hn]
    have hml0 : (decDigits (natOf s)).length ≤ s.length := by
      rcases Nat.eq_zero_or_pos s.length with e | e
      · rw [List.eq_nil_of_length_eq_zero e] at hn; exact absurd rfl hn
      · exact (decDigits_lt e).2 hlen
    refine awp_skip ?_
    change Awp _ _ _ _ _ _ _
    refine awp_seq ?_
    refine awp_block ?_
    refine awp_loopG [0, 1, 2, 6] (fun g : Nat × Int => [(0, .bool neg), (1, .str (decDigits g.1)), (2, .int .i64 g.2), (6, .ptr (.own k0q0) 0)]) (fun g : Nat × Int => h.set k0q0 ⟨[.bool false, .str [], .int .i64 0], 0⟩) (fun g : Nat × Int => g.1 ≠ 0 ∧ g.2 ≤ scale ∧ (g.2 < 0 → g.1 = natOf s ∧ g.2 = scale) ∧ (0 ≤ g.2 → 0 ≤ scale ∧ strip g.1 g.2.toNat = strip (natOf s) scale.toNat) ∧ (decDigits g.1).length ≤ s.length) (fun g : Nat × Int => g.2.toNat) (natOf s, scale) (by rfl) (Sub.refl _) ⟨by omega, Int.le_refl _, fun _ => ⟨rfl, rfl⟩, fun h => ⟨h, rfl⟩, hml0⟩ ?_
    rintro ⟨m, sc⟩ ⟨hm, hsc, hneg, hpos, hml⟩
    simp only at hm hsc hneg hpos hml
    have hl1 : 0 < (decDigits m).length := List.length_pos_iff.2 (decDigits_ne m)
    refine awp_seq ?_
    -- region 4  decimals.go:40
    refine awp_rseq [0, 1, 2, 6, 18] (by rfl) fun K hK => ?_
    simp (decide := true) only [ev, absV, absS, putD, Slots.put, Slots.get, if_true, if_false, true_and, ↓ap_move, pop_move, ↓ap_binOp, pop_binOp, isNilC_int, cond_false, pBinX_int, pI_gtr, ↓ag_move, agP, agQ_some, nthDst, gKnown_bool, guardB_bool_true, implies_true]
    repeat (with_reducible refine And.intro ?_ ?_; · first | trivial | omega | (intro hg; simp only [Bool.and_eq_true, Bool.or_eq_true, Bool.not_eq_true', Bool.and_eq_false_iff, Bool.or_eq_false_iff, Bool.not_eq_false', decide_eq_true_eq, decide_eq_false_iff_not, eqNil] at hg; omega) )
    first
    | (refine aOps_yes (by rfl) ?_; refine aOps_callV (V := .bool ([48].isSuffixOf (decDigits m))) (by rfl) (by rfl) (c_hasSuffix w₀ _ _ _ (by omega)) ?_)
    | (refine aOps_gcall (V := .bool ([48].isSuffixOf (decDigits m))) (f := _) (cap := _) (xs := _) rfl (fun hg => ⟨rfl, ?_⟩) (fun hg => c_hasSuffix w₀ _ _ _ (by omega)) ?_; · (simp (decide := true) only [gv, nthDst, Slots.get, if_true, if_false, guardB_bool_true] at hg; simp (decide := true) only [evs, ev, Slots.get, if_true, if_false, hg, condV_true, List.append_nil, List.map_cons, List.map_nil, absV, absS] <;> try rfl))
    simp (decide := true) only [aOps_nil, ev, absV, absS, putD, Slots.put, Slots.get, Slots.keep, if_true, if_false, true_and, gv, nthDst, guardB_bool_true, ↓ap_pick, pop_pick, pPick_bool, pickV_cond_l, pickV_and]
    rw [suffix_zero]
    apply hK; clear hK K
    refine awp_cond (b := _) rfl (fun hb2 => ?_) (fun hb2 => ?_)
    · try simp only [decide_eq_true_eq, Bool.and_eq_true] at hb2
      refine awp_skip ?_
      change Awp _ _ _ _ _ _ _
      refine awp_block ?_
      -- region 5  decimals.go:41
      refine awp_r [0, 1, 2, 6] (by rfl) ?_
      simp (decide := true) only [ev, absV, absS, putD, Slots.put, Slots.get, if_true, if_false, true_and, ↓ap_move, pop_move, ↓ap_len, pop_len, pLen_str Tryz.underlying9, ↓ap_binOp, pop_binOp, isNilC_int, cond_false, pBinX_int, pI_sub]
      try simp (disch := omega) only [wrap_i64]
      try simp (decide := true) only [aOps_nil, ev, absV, absS, putD, Slots.put, Slots.get, Slots.keep, if_true, if_false, true_and, ↓ap_slice, pop_slice, evO, pSliceS_0i Tryz.underlying9, pSliceS, bndA_none, bndA_int, ↓ap_move, pop_move, ↓ap_binOp, pop_binOp, isNilC_int, cond_false, pBinX_int, pI_sub, ↓ap_assign, pop_assign]
      try simp (disch := omega) only [wrap_i64]
      repeat (with_reducible refine And.intro ?_ ?_; · first | trivial | omega | (intro hg; simp only [Bool.and_eq_true, Bool.or_eq_true, Bool.not_eq_true', Bool.and_eq_false_iff, Bool.or_eq_false_iff, Bool.not_eq_false', decide_eq_true_eq, decide_eq_false_iff_not, eqNil] at hg; omega) )
      try simp only [thenA_normal, inBlockA_normal]
      have hm10 : ¬ m < 10 := by omega
      refine ⟨(m / 10, sc - 1), ?_, Sub.refl _, ⟨by simp only; omega, by simp only; omega, fun h => by simp only at h; omega, fun h => ?_, ?_⟩, by simp only; omega⟩
      · have e0 : ((decDigits m).length - 1 : Int).toNat = (decDigits m).length - 1 := by omega
        rw [e0]; simp only [Int.toNat_natCast, List.drop_zero, Nat.sub_zero]
        rw [decDigits_init hm10]; rfl
      · obtain ⟨q1, q2⟩ := hpos (by omega)
        refine ⟨q1, ?_⟩
        rw [← q2, show sc.toNat = (sc - 1).toNat + 1 by omega, strip, if_pos hb2.2]
      · simp only
        rw [← decDigits_init hm10]
        simp; omega
    · try simp only [decide_eq_false_iff_not, Bool.and_eq_false_iff] at hb2
      refine awp_exit ?_
      change Awp _ _ _ _ _ _ _
      refine awp_seq ?_
      -- region 6  decimals.go:43
      refine awp_rseq [0, 1, 2, 6, 27] (by rfl) fun K hK => ?_
      simp (decide := true) only [aOps_nil, ev, absV, absS, putD, Slots.put, Slots.get, Slots.keep, if_true, if_false, true_and, ↓ap_move, pop_move, ↓ap_binOp, pop_binOp, isNilC_int, cond_false, pBinX_int, pI_lss]
      repeat (with_reducible refine And.intro ?_ ?_; · first | trivial | omega | (intro hg; simp only [Bool.and_eq_true, Bool.or_eq_true, Bool.not_eq_true', Bool.and_eq_false_iff, Bool.or_eq_false_iff, Bool.not_eq_false', decide_eq_true_eq, decide_eq_false_iff_not, eqNil] at hg; omega) )
      apply hK; clear hK K
      refine awp_cond (b := _) rfl (fun hb3 => ?_) (fun hb3 => ?_)
      · try simp only [decide_eq_true_eq] at hb3
        -- region 7  decimals.go:44
        refine awp_r [0, 1, 2, 6] (by rfl) ?_
        simp (decide := true) only [ev, putD, Slots.put, Slots.get, if_true, if_false, true_and, ↓ap_move, pop_move, ↓ap_unOp, pop_unOp, pU_neg]
        try simp (disch := omega) only [wrap_i64]
        repeat (with_reducible refine And.intro ?_ ?_; · first | trivial | omega | (intro hg; simp only [Bool.and_eq_true, Bool.or_eq_true, Bool.not_eq_true', Bool.and_eq_false_iff, Bool.or_eq_false_iff, Bool.not_eq_false', decide_eq_true_eq, decide_eq_false_iff_not, eqNil] at hg; omega) )
        refine aOps_callV (V := .str (List.replicate (-sc).toNat 48)) (by rfl) (by rfl) (by
          have e := c_repeat w₀ (h.set k0q0 ⟨[.bool false, .str [], .int .i64 0], 0⟩) 48 (-sc).toNat (by omega)
          rw [show (((-sc).toNat : Nat) : Int) = 0 - sc by omega] at e
          exact e) ?_
        simp (decide := true) only [aOps_nil, ev, absV, absS, putD, Slots.put, Slots.get, Slots.keep, if_true, if_false, true_and, ↓ap_binOp, pop_binOp, isNilC_tmp, cond_false, pBinX_str, pS_add, ↓ap_assign, pop_assign]
        refine And.intro (by simp only [List.length_replicate]; omega) ?_
        change Awp _ _ _ _ _ _ _
        refine awp_seq ?_
        -- region 8  decimals.go:46
        refine awp_rseq [0, 1, 2, 6, 37] (by rfl) fun K hK => ?_
        simp (decide := true) only [aOps_nil, ev, absV, absS, putD, Slots.put, Slots.get, Slots.keep, if_true, if_false, true_and, ↓ap_move, pop_move, ↓ap_len, pop_len, pLen_str Tryz.underlying9, ↓ap_max, pop_max, pMax_int, evs, List.map_cons, List.map_nil, ↓ap_binOp, pop_binOp, isNilC_int, cond_false, pBinX_int, pI_gtr]
        repeat (with_reducible refine And.intro ?_ ?_; · first | trivial | omega | (intro hg; simp only [Bool.and_eq_true, Bool.or_eq_true, Bool.not_eq_true', Bool.and_eq_false_iff, Bool.or_eq_false_iff, Bool.not_eq_false', decide_eq_true_eq, decide_eq_false_iff_not, eqNil] at hg; omega) )
        apply hK; clear hK K
        refine awp_cond (b := _) rfl (fun hb4 => ?_) (fun hb4 => ?_)
        · try simp only [decide_eq_true_eq] at hb4
          -- region 9  decimals.go:47
          refine awp_rseq [6, 7] (by rfl) fun K hK => ?_
          simp (decide := true) only [ev, absV, absS, putD, Slots.put, Slots.get, if_false, true_and, ↓ap_build, ↓pop_buildL, bld27_, evP, List.map_nil]
          repeat (with_reducible refine And.intro ?_ ?_; · first | trivial | omega | (intro hg; simp only [Bool.and_eq_true, Bool.or_eq_true, Bool.not_eq_true', Bool.and_eq_false_iff, Bool.or_eq_false_iff, Bool.not_eq_false', decide_eq_true_eq, decide_eq_false_iff_not, eqNil] at hg; omega) )
          refine aOps_store (by rfl) (by rfl) (AHeap.set_same _ _ _) sz27 (by rfl) (by rfl) (by first | exact Nat.le_refl _ | decide | (simp; done) | (simp; omega)) (Nat.zero_le _) (by rfl) ?_
          simp only [AHeap.set_set, AVal.cells]
          simp (decide := true) only [aOps_nil, ev, absV, absS, putD, Slots.put, Slots.get, Slots.keep, if_true, if_false, true_and, ↓ap_assign, pop_assign]
          repeat (with_reducible refine And.intro ?_ ?_; · first | trivial | omega | (intro hg; simp only [Bool.and_eq_true, Bool.or_eq_true, Bool.not_eq_true', Bool.and_eq_false_iff, Bool.or_eq_false_iff, Bool.not_eq_false', decide_eq_true_eq, decide_eq_false_iff_not, eqNil] at hg; omega) )
          apply hK; clear hK K
          refine awp_ret ?_
          try simp only [thenA_ret]
          refine retA_ret h (Sub.set hk0q0) (?_) ?_
          · simp (decide := true) only [resPre, resV_tmp, resV_cell, Slots.get, if_true, if_false, and_true, resV_tmp, resV_cell, pLoad_agg ag27 sz27, rd_set, cellsAt, List.getD_cons_zero, List.getD_cons_succ, Nat.zero_add, Nat.reduceAdd, setAt, List.set_cons_zero, List.set_cons_succ, lv_bool, lv_int, lv_str, allLive, Bool.and_true]
          
          simp (decide := true) only [Slots.get, if_true, if_false, and_true, resOfG_two, resV_tmp, resV_cell, pLoad_agg ag27 sz27, rd_set, cellsAt, List.getD_cons_zero, List.getD_cons_succ, Nat.zero_add, Nat.reduceAdd, setAt, List.set_cons_zero, List.set_cons_succ, lv_bool, lv_int, lv_str, allLive, Bool.and_true]
          have hc := norm_final neg hn hneg hpos (by omega)
          rw [if_pos hb3] at hc
          rw [decDigits_zeros (by omega)] at hb4
          rw [normE, hc, resE_long (by simp only [long]; omega)]
          rfl
        · try simp only [decide_eq_false_iff_not] at hb4
          refine awp_skip ?_
          change Awp _ _ _ _ _ _ _
          -- region 10  decimals.go:49
          refine awp_rseq [6, 7] (by rfl) fun K hK => ?_
          simp (decide := true) only [ev, absV, absS, putD, Slots.put, Slots.get, if_true, if_false, true_and, ↓ap_move, pop_move, ↓ap_build, ↓pop_buildL, bld27_0_1_2, evP, List.map_cons, List.map_nil]
          repeat (with_reducible refine And.intro ?_ ?_; · first | trivial | omega | (intro hg; simp only [Bool.and_eq_true, Bool.or_eq_true, Bool.not_eq_true', Bool.and_eq_false_iff, Bool.or_eq_false_iff, Bool.not_eq_false', decide_eq_true_eq, decide_eq_false_iff_not, eqNil] at hg; omega) )
          refine aOps_store (by rfl) (by rfl) (AHeap.set_same _ _ _) sz27 (by rfl) (by rfl) (by first | exact Nat.le_refl _ | decide | (simp; done) | (simp; omega)) (Nat.zero_le _) (by rfl) ?_
          simp only [AHeap.set_set, AVal.cells]
          simp (decide := true) only [aOps_nil, ev, absV, absS, putD, Slots.put, Slots.get, Slots.keep, if_true, if_false, true_and, ↓ap_assign, pop_assign]
          repeat (with_reducible refine And.intro ?_ ?_; · first | trivial | omega | (intro hg; simp only [Bool.and_eq_true, Bool.or_eq_true, Bool.not_eq_true', Bool.and_eq_false_iff, Bool.or_eq_false_iff, Bool.not_eq_false', decide_eq_true_eq, decide_eq_false_iff_not, eqNil] at hg; omega) )
          apply hK; clear hK K
          refine awp_ret ?_
          try simp only [thenA_ret, inBlockA_ret]
          refine retA_ret h (Sub.set hk0q0) (?_) ?_
          · simp (decide := true) only [resPre, resV_tmp, resV_cell, Slots.get, if_true, if_false, and_true, resV_tmp, resV_cell, pLoad_agg ag27 sz27, rd_set, cellsAt, List.getD_cons_zero, List.getD_cons_succ, Nat.zero_add, Nat.reduceAdd, setAt, List.set_cons_zero, List.set_cons_succ, lv_bool, lv_int, lv_str, allLive, Bool.and_true]
          
          simp (decide := true) only [Slots.get, if_true, if_false, and_true, resOfG_two, resV_tmp, resV_cell, pLoad_agg ag27 sz27, rd_set, cellsAt, List.getD_cons_zero, List.getD_cons_succ, Nat.zero_add, Nat.reduceAdd, setAt, List.set_cons_zero, List.set_cons_succ, lv_bool, lv_int, lv_str, allLive, Bool.and_true]
          have hc := norm_final neg hn hneg hpos (by omega)
          rw [if_pos hb3] at hc
          rw [decDigits_zeros (by omega)] at hb4 ⊢
          rw [normE, hc, resE_ok (by simp only [long]; omega)]
          rfl
      · try simp only [decide_eq_false_iff_not] at hb3
        refine awp_skip ?_
        change Awp _ _ _ _ _ _ _
        refine awp_seq ?_
        -- region 8  decimals.go:46
        refine awp_rseq [0, 1, 2, 6, 37] (by rfl) fun K hK => ?_
        simp (decide := true) only [aOps_nil, ev, absV, absS, putD, Slots.put, Slots.get, Slots.keep, if_true, if_false, true_and, ↓ap_move, pop_move, ↓ap_len, pop_len, pLen_str Tryz.underlying9, ↓ap_max, pop_max, pMax_int, evs, List.map_cons, List.map_nil, ↓ap_binOp, pop_binOp, isNilC_int, cond_false, pBinX_int, pI_gtr]
        repeat (with_reducible refine And.intro ?_ ?_; · first | trivial | omega | (intro hg; simp only [Bool.and_eq_true, Bool.or_eq_true, Bool.not_eq_true', Bool.and_eq_false_iff, Bool.or_eq_false_iff, Bool.not_eq_false', decide_eq_true_eq, decide_eq_false_iff_not, eqNil] at hg; omega) )
        apply hK; clear hK K
        refine awp_cond (b := _) rfl (fun hb5 => ?_) (fun hb5 => ?_)
        · try simp only [decide_eq_true_eq] at hb5
          -- region 9  decimals.go:47
          refine awp_rseq [6, 7] (by rfl) fun K hK => ?_
          simp (decide := true) only [ev, absV, absS, putD, Slots.put, Slots.get, if_false, true_and, ↓ap_build, ↓pop_buildL, bld27_, evP, List.map_nil]
          repeat (with_reducible refine And.intro ?_ ?_; · first | trivial | omega | (intro hg; simp only [Bool.and_eq_true, Bool.or_eq_true, Bool.not_eq_true', Bool.and_eq_false_iff, Bool.or_eq_false_iff, Bool.not_eq_false', decide_eq_true_eq, decide_eq_false_iff_not, eqNil] at hg; omega) )
          refine aOps_store (by rfl) (by rfl) (AHeap.set_same _ _ _) sz27 (by rfl) (by rfl) (by first | exact Nat.le_refl _ | decide | (simp; done) | (simp; omega)) (Nat.zero_le _) (by rfl) ?_
          simp only [AHeap.set_set, AVal.cells]
          simp (decide := true) only [aOps_nil, ev, absV, absS, putD, Slots.put, Slots.get, Slots.keep, if_true, if_false, true_and, ↓ap_assign, pop_assign]
          repeat (with_reducible refine And.intro ?_ ?_; · first | trivial | omega | (intro hg; simp only [Bool.and_eq_true, Bool.or_eq_true, Bool.not_eq_true', Bool.and_eq_false_iff, Bool.or_eq_false_iff, Bool.not_eq_false', decide_eq_true_eq, decide_eq_false_iff_not, eqNil] at hg; omega) )
          apply hK; clear hK K
          refine awp_ret ?_
          try simp only [thenA_ret]
          refine retA_ret h (Sub.set hk0q0) (?_) ?_
          · simp (decide := true) only [resPre, resV_tmp, resV_cell, Slots.get, if_true, if_false, and_true, resV_tmp, resV_cell, pLoad_agg ag27 sz27, rd_set, cellsAt, List.getD_cons_zero, List.getD_cons_succ, Nat.zero_add, Nat.reduceAdd, setAt, List.set_cons_zero, List.set_cons_succ, lv_bool, lv_int, lv_str, allLive, Bool.and_true]
          
          simp (decide := true) only [Slots.get, if_true, if_false, and_true, resOfG_two, resV_tmp, resV_cell, pLoad_agg ag27 sz27, rd_set, cellsAt, List.getD_cons_zero, List.getD_cons_succ, Nat.zero_add, Nat.reduceAdd, setAt, List.set_cons_zero, List.set_cons_succ, lv_bool, lv_int, lv_str, allLive, Bool.and_true]
          have hc := norm_final neg hn hneg hpos (by omega)
          rw [if_neg hb3] at hc
          rw [normE, hc, resE_long (by simp only [long]; omega)]
          rfl
        · try simp only [decide_eq_false_iff_not] at hb5
          refine awp_skip ?_
          change Awp _ _ _ _ _ _ _
          -- region 10  decimals.go:49
          refine awp_rseq [6, 7] (by rfl) fun K hK => ?_
          simp (decide := true) only [ev, absV, absS, putD, Slots.put, Slots.get, if_true, if_false, true_and, ↓ap_move, pop_move, ↓ap_build, ↓pop_buildL, bld27_0_1_2, evP, List.map_cons, List.map_nil]
          repeat (with_reducible refine And.intro ?_ ?_; · first | trivial | omega | (intro hg; simp only [Bool.and_eq_true, Bool.or_eq_true, Bool.not_eq_true', Bool.and_eq_false_iff, Bool.or_eq_false_iff, Bool.not_eq_false', decide_eq_true_eq, decide_eq_false_iff_not, eqNil] at hg; omega) )
          refine aOps_store (by rfl) (by rfl) (AHeap.set_same _ _ _) sz27 (by rfl) (by rfl) (by first | exact Nat.le_refl _ | decide | (simp; done) | (simp; omega)) (Nat.zero_le _) (by rfl) ?_
          simp only [AHeap.set_set, AVal.cells]
          simp (decide := true) only [aOps_nil, ev, absV, absS, putD, Slots.put, Slots.get, Slots.keep, if_true, if_false, true_and, ↓ap_assign, pop_assign]
          repeat (with_reducible refine And.intro ?_ ?_; · first | trivial | omega | (intro hg; simp only [Bool.and_eq_true, Bool.or_eq_true, Bool.not_eq_true', Bool.and_eq_false_iff, Bool.or_eq_false_iff, Bool.not_eq_false', decide_eq_true_eq, decide_eq_false_iff_not, eqNil] at hg; omega) )
          apply hK; clear hK K
          refine awp_ret ?_
          try simp only [thenA_ret, inBlockA_ret]
          refine retA_ret h (Sub.set hk0q0) (?_) ?_
          · simp (decide := true) only [resPre, resV_tmp, resV_cell, Slots.get, if_true, if_false, and_true, resV_tmp, resV_cell, pLoad_agg ag27 sz27, rd_set, cellsAt, List.getD_cons_zero, List.getD_cons_succ, Nat.zero_add, Nat.reduceAdd, setAt, List.set_cons_zero, List.set_cons_succ, lv_bool, lv_int, lv_str, allLive, Bool.and_true]
          
          simp (decide := true) only [Slots.get, if_true, if_false, and_true, resOfG_two, resV_tmp, resV_cell, pLoad_agg ag27 sz27, rd_set, cellsAt, List.getD_cons_zero, List.getD_cons_succ, Nat.zero_add, Nat.reduceAdd, setAt, List.set_cons_zero, List.set_cons_succ, lv_bool, lv_int, lv_str, allLive, Bool.and_true]
          have hc := norm_final neg hn hneg hpos (by omega)
          rw [if_neg hb3] at hc
          rw [normE, hc, resE_ok (by simp only [long]; omega)]
          rfl
end Go.Proofs.YthiiakghjoeikaaGreatDoor

/-
  Contracts: Normal, Long, is of the law's package; Check, New of the package decimals.
  Conditions: none.
-/
namespace Go.Proofs.YthiiakghjoeikaaGreatDoor
open Go.AM
open Go.Proofs
open Go.Dec
open Go.Lib (decDigits)
set_option maxRecDepth 100000

theorem c_Normal (w₀ : World) (h : AHeap) (neg : Bool) (s : List UInt8) (scale : Int) (hs : s.all dg = true) (hl : s.length ≤ 1073741824) (h0 : 0 ≤ scale) (h1 : scale ≤ 1073741824) :
    ACall Tryz.prog w₀ 19 [.bool neg, .str s, .int .i64 scale] h (fun v h' => v = decA (canon neg (natOf s) scale.toNat) ∧ h' = h) := by
  have hlen := natOf_lt s hs
  refine acall_intro (n := 41) (rs := [.cell 6 27]) Tryz.func19 rfl rfl rfl rfl (Nat.le_of_ble_eq_true rfl) ?_
  simp only [initSlots]
  -- region 0  law.go:28
  refine awp_rseq [0, 1, 2, 6] (by rfl) fun K hK => ?_
  refine aOps_alloc ze27 (cs := [.bool false, .str [], .int .i64 0]) (by rfl) fun k0q0 hk0q0 => ?_
  simp (decide := true) only [aOps_nil, putD, Slots.put, Slots.keep, if_true, if_false]
  repeat (with_reducible refine And.intro ?_ ?_; · first | trivial | omega | (intro hg; simp only [Bool.and_eq_true, Bool.or_eq_true, Bool.not_eq_true', Bool.and_eq_false_iff, Bool.or_eq_false_iff, Bool.not_eq_false', decide_eq_true_eq, decide_eq_false_iff_not, eqNil] at hg; omega) )
  apply hK; clear hK K
  refine awp_seq ?_
  refine awp_block ?_
  refine awp_loopG [0, 1, 2, 6] (fun t : List UInt8 => [(0, .bool neg), (1, .str t), (2, .int .i64 scale), (6, .ptr (.own k0q0) 0)]) (fun t : List UInt8 => h.set k0q0 ⟨[.bool false, .str [], .int .i64 0], 0⟩) (fun t : List UInt8 => t.dropWhile (· == 48) = s.dropWhile (· == 48) ∧ t.length ≤ s.length) (fun t : List UInt8 => t.length) s rfl (Sub.refl _) ⟨rfl, Nat.le_refl _⟩ ?_
  rintro t ⟨ht, htl⟩
  refine awp_seq ?_
  -- region 1  law.go:29
  refine awp_rseq [0, 1, 2, 6, 14] (by rfl) fun K hK => ?_
  simp (decide := true) only [aOps_nil, ev, absV, absS, putD, Slots.put, Slots.get, Slots.keep, if_true, if_false, true_and, ↓ap_move, pop_move, ↓ap_len, pop_len, pLen_str Tryz.underlying9, ↓ap_binOp, pop_binOp, isNilC_int, cond_false, pBinX_int, pI_gtr, ↓ag_move, agP, agQ_some, nthDst, gKnown_bool, guardB_bool_true, implies_true, ↓ag_index, pop_index, pIndex_str Tryz.underlying9, cv_indexl, cp_indexl, ↓ag_binOp, cv_binl, cp_binl, pI_eql, ↓ap_pick, pop_pick, pPick_bool, pickV_cond_l, pickV_and]
  repeat (with_reducible refine And.intro ?_ ?_; · first | trivial | omega | (intro hg; simp only [decide_eq_true_eq] at hg; omega) )
  apply hK; clear hK K
  refine awp_cond (b := _) rfl (fun hb1 => ?_) (fun hb1 => ?_)
  · try simp only [decide_eq_true_eq, Bool.and_eq_true] at hb1
    refine awp_skip ?_
    change Awp _ _ _ _ _ _ _
    refine awp_block ?_
    -- region 2  law.go:30
    refine awp_r [0, 1, 2, 6] (by rfl) ?_
    simp (decide := true) only [aOps_nil, ev, absV, absS, putD, Slots.put, Slots.get, Slots.keep, if_true, if_false, true_and, ↓ap_move, pop_move, ↓ap_slice, pop_slice, evO, pSliceS_i0 Tryz.underlying9, pSliceS, bndA_none, bndA_int, ↓ap_assign, pop_assign]
    repeat (with_reducible refine And.intro ?_ ?_; · first | trivial | omega | (intro hg; simp only [Bool.and_eq_true, Bool.or_eq_true, Bool.not_eq_true', Bool.and_eq_false_iff, Bool.or_eq_false_iff, Bool.not_eq_false', decide_eq_true_eq, decide_eq_false_iff_not, eqNil] at hg; omega) )
    try simp only [thenA_normal, inBlockA_normal]
    have e := drop_one t (by omega)
    refine ⟨t.drop 1, ?_, Sub.refl _, ⟨?_, by simp; omega⟩, by simp; omega⟩
    · rw [show Int.toNat 1 = 1 from rfl, sub_left t _ rfl]; rfl
    · rw [← ht]
      conv => rhs; rw [e]
      have hz : t.getD 0 0 = 48 := UInt8.toNat_inj.1 (by have := hb1.2; rw [Int.toNat_zero] at this; have e48 : (48 : UInt8).toNat = 48 := rfl; omega)
      rw [List.dropWhile_cons, if_pos (by rw [hz]; rfl)]
  · try simp only [decide_eq_false_iff_not, Bool.and_eq_false_iff] at hb1
    have ht2 : t = if natOf s = 0 then [] else decDigits (natOf s) := by
      rw [← drop_zeros s hs, ← ht]
      rcases Nat.eq_zero_or_pos t.length with e | e
      · rw [List.eq_nil_of_length_eq_zero e]; rfl
      · have e1 := drop_one t e
        rw [e1, List.dropWhile_cons, if_neg]
        intro e2
        have e3 : t.getD 0 0 = 48 := by simpa using e2
        rw [Int.toNat_zero] at hb1
        rcases hb1 with hb1 | hb1
        · omega
        · rw [e3] at hb1; exact hb1 rfl
    subst ht2
    refine awp_exit ?_
    change Awp _ _ _ _ _ _ _
    refine awp_seq ?_
    -- region 3  law.go:32
    refine awp_rseq [0, 1, 2, 6, 18] (by rfl) fun K hK => ?_
    simp (decide := true) only [aOps_nil, ev, absV, absS, putD, Slots.put, Slots.get, Slots.keep, if_true, if_false, true_and, ↓ap_move, pop_move, ↓ap_binOp, pop_binOp, isNilC_str, cond_false, pBinX_str, pS_eql]
    repeat (with_reducible refine And.intro ?_ ?_; · first | trivial | omega | (intro hg; simp only [Bool.and_eq_true, Bool.or_eq_true, Bool.not_eq_true', Bool.and_eq_false_iff, Bool.or_eq_false_iff, Bool.not_eq_false', decide_eq_true_eq, decide_eq_false_iff_not, eqNil] at hg; omega) )
    apply hK; clear hK K
    refine awp_cond (b := _) rfl (fun hb2 => ?_) (fun hb2 => ?_)
    · try simp only [decide_eq_true_eq] at hb2
      -- region 4  law.go:33
      refine awp_rseq [6] (by rfl) fun K hK => ?_
      simp (decide := true) only [ev, absV, absS, putD, Slots.put, Slots.get, if_false, true_and, ↓ap_build, ↓pop_buildL, bld27_1, evP, List.map_cons, List.map_nil]
      repeat (with_reducible refine And.intro ?_ ?_; · first | trivial | omega | (intro hg; simp only [Bool.and_eq_true, Bool.or_eq_true, Bool.not_eq_true', Bool.and_eq_false_iff, Bool.or_eq_false_iff, Bool.not_eq_false', decide_eq_true_eq, decide_eq_false_iff_not, eqNil] at hg; omega) )
      refine aOps_store (by rfl) (by rfl) (AHeap.set_same _ _ _) sz27 (by rfl) (by rfl) (by first | exact Nat.le_refl _ | decide | (simp; done) | (simp; omega)) (Nat.zero_le _) (by rfl) ?_
      simp only [AHeap.set_set, AVal.cells]
      simp (decide := true) only [aOps_nil, ev, putD, Slots.get, Slots.keep, if_true, if_false]
      repeat (with_reducible refine And.intro ?_ ?_; · first | trivial | omega | (intro hg; simp only [Bool.and_eq_true, Bool.or_eq_true, Bool.not_eq_true', Bool.and_eq_false_iff, Bool.or_eq_false_iff, Bool.not_eq_false', decide_eq_true_eq, decide_eq_false_iff_not, eqNil] at hg; omega) )
      apply hK; clear hK K
      refine awp_ret ?_
      try simp only [thenA_ret]
      refine retA_ret h (Sub.set hk0q0) (?_) ?_
      · simp (decide := true) only [resPre, resV_cell, Slots.get, if_true, and_true, resV_cell, pLoad_agg ag27 sz27, rd_set, cellsAt, List.getD_cons_zero, List.getD_cons_succ, Nat.zero_add, Nat.reduceAdd, setAt, List.set_cons_zero, List.set_cons_succ, lv_bool, lv_int, lv_str, allLive, Bool.and_true]
      
      simp (decide := true) only [Slots.get, if_true, and_true, resOfG_one, resV_cell, pLoad_agg ag27 sz27, rd_set, cellsAt, List.getD_cons_zero, List.getD_cons_succ, Nat.zero_add, Nat.reduceAdd, setAt, List.set_cons_zero, List.set_cons_succ, lv_bool, lv_int, lv_str, allLive, Bool.and_true]
      have hn : natOf s = 0 := by
        by_cases hn : natOf s = 0
        · exact hn
        · rw [if_neg hn] at hb2; exact absurd hb2 (decDigits_ne _)
      rw [hn, canon, if_pos rfl]; rfl
    · try simp only [decide_eq_false_iff_not] at hb2
      have hn : natOf s ≠ 0 := fun hn => hb2 (by rw [if_pos hn])
      simp only [if_neg hn]
      have hml0 : (decDigits (natOf s)).length ≤ s.length := by
        rcases Nat.eq_zero_or_pos s.length with e | e
        · rw [List.eq_nil_of_length_eq_zero e] at hn; exact absurd rfl hn
        · exact (decDigits_lt e).2 hlen
      refine awp_skip ?_
      change Awp _ _ _ _ _ _ _
      refine awp_seq ?_
      refine awp_block ?_
      refine awp_loopG [0, 1, 2, 6] (fun g : Nat × Int => [(0, .bool neg), (1, .str (decDigits g.1)), (2, .int .i64 g.2), (6, .ptr (.own k0q0) 0)]) (fun g : Nat × Int => h.set k0q0 ⟨[.bool false, .str [], .int .i64 0], 0⟩) (fun g : Nat × Int => g.1 ≠ 0 ∧ g.2 ≤ scale ∧ 0 ≤ g.2 ∧ strip g.1 g.2.toNat = strip (natOf s) scale.toNat ∧ (decDigits g.1).length ≤ s.length) (fun g : Nat × Int => g.2.toNat) (natOf s, scale) (by rfl) (Sub.refl _) ⟨by omega, Int.le_refl _, h0, rfl, hml0⟩ ?_
      rintro ⟨m, sc⟩ ⟨hm, hsc, hpos, hst, hml⟩
      simp only at hm hsc hpos hst hml
      have hl1 : 0 < (decDigits m).length := List.length_pos_iff.2 (decDigits_ne m)
      have hlast : (((decDigits m).getD (((decDigits m).length : Int) - 1).toNat 0).toNat : Int) = 48 ↔ m % 10 = 0 := by
        rw [show (((decDigits m).length : Int) - 1).toNat = (decDigits m).length - 1 by omega]
        exact decDigits_last m
      refine awp_seq ?_
      -- region 5  law.go:35
      refine awp_rseq [0, 1, 2, 6, 29] (by rfl) fun K hK => ?_
      simp (decide := true) only [aOps_nil, ev, absV, absS, putD, Slots.put, Slots.get, Slots.keep, if_true, if_false, true_and, ↓ap_move, pop_move, ↓ap_binOp, pop_binOp, isNilC_int, cond_false, pBinX_int, pI_gtr, ↓ag_move, agP, agQ_some, nthDst, gKnown_bool, guardB_bool_true, implies_true, ↓ag_len, pop_len, pLen_str Tryz.underlying9, cv_len, cp_len, ↓ag_binOp, cv_binl, cp_binl, pI_sub, ↓ag_index, pop_index, pIndex_str Tryz.underlying9, cv_indexl, cv_indexr, cp_indexl, cp_indexr, pI_eql, ↓ap_pick, pop_pick, pPick_bool, pickV_cond_l, pickV_and]
      try simp (disch := omega) only [wrap_i64]
      repeat (with_reducible refine And.intro ?_ ?_; · first | trivial | omega | (intro hg; simp only [Bool.and_eq_true, Bool.or_eq_true, Bool.not_eq_true', Bool.and_eq_false_iff, Bool.or_eq_false_iff, Bool.not_eq_false', decide_eq_true_eq, decide_eq_false_iff_not, eqNil] at hg; omega) )
      apply hK; clear hK K
      refine awp_cond (b := _) rfl (fun hb3 => ?_) (fun hb3 => ?_)
      · try simp only [decide_eq_true_eq, Bool.and_eq_true] at hb3
        refine awp_skip ?_
        change Awp _ _ _ _ _ _ _
        refine awp_block ?_
        -- region 6  law.go:36
        refine awp_rseq [0, 1, 2, 6] (by rfl) fun K hK => ?_
        simp (decide := true) only [ev, absV, absS, putD, Slots.put, Slots.get, if_true, if_false, true_and, ↓ap_move, pop_move, ↓ap_len, pop_len, pLen_str Tryz.underlying9, ↓ap_binOp, pop_binOp, isNilC_int, cond_false, pBinX_int, pI_sub]
        try simp (disch := omega) only [wrap_i64]
        try simp (decide := true) only [aOps_nil, ev, putD, Slots.put, Slots.get, Slots.keep, if_true, if_false, true_and, ↓ap_slice, pop_slice, evO, pSliceS_0i Tryz.underlying9, pSliceS, bndA_none, bndA_int, ↓ap_assign, pop_assign]
        repeat (with_reducible refine And.intro ?_ ?_; · first | trivial | omega | (intro hg; simp only [Bool.and_eq_true, Bool.or_eq_true, Bool.not_eq_true', Bool.and_eq_false_iff, Bool.or_eq_false_iff, Bool.not_eq_false', decide_eq_true_eq, decide_eq_false_iff_not, eqNil] at hg; omega) )
        apply hK; clear hK K
        -- region 7  law.go:37
        refine awp_r [0, 1, 2, 6] (by rfl) ?_
        simp (decide := true) only [aOps_nil, ev, absV, absS, putD, Slots.put, Slots.get, Slots.keep, if_true, if_false, true_and, ↓ap_move, pop_move, ↓ap_binOp, pop_binOp, isNilC_int, cond_false, pBinX_int, pI_sub, ↓ap_assign, pop_assign]
        try simp (disch := omega) only [wrap_i64]
        repeat (with_reducible refine And.intro ?_ ?_; · first | trivial | omega | (intro hg; simp only [Bool.and_eq_true, Bool.or_eq_true, Bool.not_eq_true', Bool.and_eq_false_iff, Bool.or_eq_false_iff, Bool.not_eq_false', decide_eq_true_eq, decide_eq_false_iff_not, eqNil] at hg; omega) )
        try simp only [thenA_normal, inBlockA_normal]
        have hm0 : m % 10 = 0 := hlast.1 hb3.2
        have hm10 : ¬ m < 10 := by omega
        refine ⟨(m / 10, sc - 1), ?_, Sub.refl _, ⟨by simp only; omega, by simp only; omega, by simp only; omega, ?_, ?_⟩, by simp only; omega⟩
        · have e0 : ((decDigits m).length - 1 : Int).toNat = (decDigits m).length - 1 := by omega
          rw [e0]; simp only [Int.toNat_natCast, List.drop_zero, Nat.sub_zero]
          rw [decDigits_init hm10]; rfl
        · rw [← hst, show sc.toNat = (sc - 1).toNat + 1 by omega, strip, if_pos hm0]
        · simp only
          rw [← decDigits_init hm10]
          simp; omega
      · try simp only [decide_eq_false_iff_not, Bool.and_eq_false_iff] at hb3
        refine awp_exit ?_
        change Awp _ _ _ _ _ _ _
        -- region 8  law.go:39
        refine awp_rseq [6] (by rfl) fun K hK => ?_
        simp (decide := true) only [ev, absV, absS, putD, Slots.put, Slots.get, if_true, if_false, true_and, ↓ap_move, pop_move, ↓ap_build, ↓pop_buildL, bld27_0_1_2, evP, List.map_cons, List.map_nil]
        repeat (with_reducible refine And.intro ?_ ?_; · first | trivial | omega | (intro hg; simp only [Bool.and_eq_true, Bool.or_eq_true, Bool.not_eq_true', Bool.and_eq_false_iff, Bool.or_eq_false_iff, Bool.not_eq_false', decide_eq_true_eq, decide_eq_false_iff_not, eqNil] at hg; omega) )
        refine aOps_store (by rfl) (by rfl) (AHeap.set_same _ _ _) sz27 (by rfl) (by rfl) (by first | exact Nat.le_refl _ | decide | (simp; done) | (simp; omega)) (Nat.zero_le _) (by rfl) ?_
        simp only [AHeap.set_set, AVal.cells]
        simp (decide := true) only [aOps_nil, ev, putD, Slots.get, Slots.keep, if_true, if_false]
        repeat (with_reducible refine And.intro ?_ ?_; · first | trivial | omega | (intro hg; simp only [Bool.and_eq_true, Bool.or_eq_true, Bool.not_eq_true', Bool.and_eq_false_iff, Bool.or_eq_false_iff, Bool.not_eq_false', decide_eq_true_eq, decide_eq_false_iff_not, eqNil] at hg; omega) )
        apply hK; clear hK K
        refine awp_ret ?_
        try simp only [thenA_ret, inBlockA_ret]
        refine retA_ret h (Sub.set hk0q0) (?_) ?_
        · simp (decide := true) only [resPre, resV_cell, Slots.get, if_true, and_true, resV_cell, pLoad_agg ag27 sz27, rd_set, cellsAt, List.getD_cons_zero, List.getD_cons_succ, Nat.zero_add, Nat.reduceAdd, setAt, List.set_cons_zero, List.set_cons_succ, lv_bool, lv_int, lv_str, allLive, Bool.and_true]
        
        simp (decide := true) only [Slots.get, if_true, and_true, resOfG_one, resV_cell, pLoad_agg ag27 sz27, rd_set, cellsAt, List.getD_cons_zero, List.getD_cons_succ, Nat.zero_add, Nat.reduceAdd, setAt, List.set_cons_zero, List.set_cons_succ, lv_bool, lv_int, lv_str, allLive, Bool.and_true]
        have hex : sc.toNat = 0 ∨ m % 10 ≠ 0 := by
          rcases hb3 with hb3 | hb3
          · omega
          · exact .inr fun e => hb3 (hlast.2 e)
        rw [canon, if_neg hn, ← hst, strip_done hex]
        simp only [decA]
        rw [Int.toNat_of_nonneg hpos]
end Go.Proofs.YthiiakghjoeikaaGreatDoor

/-
  Contracts: Long, is of the law's package; Check, New, both, padded, aligned, other, Neg of the package decimals.
  Conditions: none.
-/
namespace Go.Proofs.YthiiakghjoeikaaGreatDoor
open Go.AM
open Go.Proofs
open Go.Dec
open Go.Lib (decDigits)
set_option maxRecDepth 100000

theorem c_Long (w₀ : World) (h : AHeap) (d : D) : ACall Tryz.prog w₀ 26 [decA d] h (fun v h' => v = .int .i64 (long d) ∧ h' = h) := by
  refine acall_intro (n := 9) (rs := [.tmp 2]) Tryz.func26 rfl rfl rfl rfl (Nat.le_of_ble_eq_true rfl) ?_
  simp only [initSlots]
  -- region 0  law.go:43
  refine awp_rseq [1] (by rfl) fun K hK => ?_
  refine aOps_box (by rfl) (by rfl) (by rfl) fun k0q0 hk0q0 => ?_
  skip
  simp (decide := true) only [aOps_nil, ev, absV, absS, putD, Slots.put, Slots.get, Slots.keep, if_true, if_false, true_and, ↓ap_assign, pop_assign, AVal.cells, decA]
  repeat (with_reducible refine And.intro ?_ ?_; · first | trivial | omega | (intro hg; simp only [Bool.and_eq_true, Bool.or_eq_true, Bool.not_eq_true', Bool.and_eq_false_iff, Bool.or_eq_false_iff, Bool.not_eq_false', decide_eq_true_eq, decide_eq_false_iff_not, eqNil] at hg; omega) )
  apply hK; clear hK K
  -- region 1  law.go:43
  refine awp_rseq [2] (by rfl) fun K hK => ?_
  simp (decide := true) only [aOps_nil, ev, putD, Slots.put, Slots.get, Slots.keep, if_true, if_false, true_and, ↓ap_fieldAddr, pop_fieldAddr, fa27_1, ↓ap_loadL, apL_mk, pLoad_one ag9, ↓ap_len, pop_len, pLen_str Tryz.underlying9, fa27_2, pLoad_one ag3, ↓ap_max, pop_max, pMax_int, evs, List.map_cons, List.map_nil, ↓ap_assign, pop_assign, rd_any, List.getD_cons_zero, List.getD_cons_succ, Nat.zero_add, lv_int, lv_str]
  repeat (with_reducible refine And.intro ?_ ?_; · first | trivial | omega | (intro hg; simp only [Bool.and_eq_true, Bool.or_eq_true, Bool.not_eq_true', Bool.and_eq_false_iff, Bool.or_eq_false_iff, Bool.not_eq_false', decide_eq_true_eq, decide_eq_false_iff_not, eqNil] at hg; omega) )
  apply hK; clear hK K
  refine awp_ret ?_
  try simp only [thenA_ret, inBlockA_ret]
  refine retA_ret h (Sub.set hk0q0) (resPre_tmp (resPre_nil)) ?_
  simp (decide := true) only [Slots.get, if_true, and_true, resOf_one]
  all_goals first | rfl | exact ⟨rfl, rfl⟩ | (simp (decide := true) only [if_true, if_false, *]; done) | (trace_state; fail)

theorem D_eq (a b : D) : (a.neg == b.neg && (decide (a.dig = b.dig) && decide (a.scale = b.scale))) = decide (a = b) := by
  obtain ⟨a1, a2, a3⟩ := a
  obtain ⟨b1, b2, b3⟩ := b
  rw [Bool.eq_iff_iff]
  simp

/-- The error of a number. -/
def checkE (d : D) : Int := if numB d.dig = true ∧ d.dig.length ≤ 62 ∧ 0 ≤ d.scale ∧ d.scale ≤ 62 ∧ normE d.neg (natOf d.dig) d.scale = (d, 0) then 0 else 1

theorem c_Check (w₀ : World) (h : AHeap) (d : D) (hl : d.dig.length ≤ 9223372036854775807) : ACall Tryz.prog w₀ 27 [decA d] h (fun v h' => v = .int .i64 (checkE d) ∧ h' = h) := by
  refine acall_intro (n := 42) (rs := [.tmp 2]) Tryz.func27 rfl rfl rfl rfl (Nat.le_of_ble_eq_true rfl) ?_
  simp only [initSlots]
  -- region 0  decimals.go:61
  refine awp_rseq [1] (by rfl) fun K hK => ?_
  refine aOps_box (by rfl) (by rfl) (by rfl) fun k0q0 hk0q0 => ?_
  skip
  simp (decide := true) only [aOps_nil, ev, absV, absS, putD, Slots.put, Slots.get, Slots.keep, if_true, if_false, true_and, ↓ap_assign, pop_assign, AVal.cells, decA]
  repeat (with_reducible refine And.intro ?_ ?_; · first | trivial | omega | (intro hg; simp only [Bool.and_eq_true, Bool.or_eq_true, Bool.not_eq_true', Bool.and_eq_false_iff, Bool.or_eq_false_iff, Bool.not_eq_false', decide_eq_true_eq, decide_eq_false_iff_not, eqNil] at hg; omega) )
  apply hK; clear hK K
  refine awp_seq ?_
  -- region 1  decimals.go:62
  refine awp_rseq [1, 24] (by rfl) fun K hK => ?_
  simp (decide := true) only [ev, putD, Slots.put, Slots.get, if_true, if_false, true_and, ↓ap_fieldAddr, pop_fieldAddr, fa27_1, ↓ap_loadL, apL_mk, pLoad_one ag9, rd_any, List.getD_cons_zero, List.getD_cons_succ, Nat.zero_add, lv_str]
  repeat (with_reducible refine And.intro ?_ ?_; · first | trivial | omega | (intro hg; simp only [Bool.and_eq_true, Bool.or_eq_true, Bool.not_eq_true', Bool.and_eq_false_iff, Bool.or_eq_false_iff, Bool.not_eq_false', decide_eq_true_eq, decide_eq_false_iff_not, eqNil] at hg; omega) )
  refine aOps_callV (V := .bool (numB d.dig)) (by rfl) (by rfl) (c_number w₀ _ _ hl) ?_
  simp (decide := true) only [aOps_nil, ev, absV, absS, putD, Slots.put, Slots.get, Slots.keep, if_true, if_false, true_and, ↓ap_unOp, pop_unOp, pU_not, ↓ap_move, pop_move, ↓ag_fieldAddr, pop_fieldAddr, agP, agQ_some, nthDst, gKnown_bool, guardB_bool_false, implies_true, Bool.not_not, fa27_1, ↓ag_loadL, agQL_some, agL_mk, agL_ld2, agL_ld5, pLoad_one ag9, ↓ag_len, pop_len, pLen_str Tryz.underlying9, cv_len, cp_len, ↓ag_binOp, pop_binOp, isNilC_int, cond_false, cv_binl, cp_binl, pBinX_int, pI_gtr, ↓ap_pick, pop_pick, pPick_bool, pickV_cond_r, pickV_cond_rn, pickV_or, fa27_2, pLoad_one ag3, pI_lss, rd_any, List.getD_cons_zero, List.getD_cons_succ, Nat.zero_add, lv_int, lv_str]
  try simp (disch := omega) only [wrap_i64, wrap_u8]
  repeat (with_reducible refine And.intro ?_ ?_; · first | trivial | omega | (intro hg; simp only [Bool.and_eq_true, Bool.or_eq_true, Bool.not_eq_true', Bool.and_eq_false_iff, Bool.or_eq_false_iff, Bool.not_eq_false', decide_eq_true_eq, decide_eq_false_iff_not, eqNil] at hg; omega) )
  apply hK; clear hK K
  refine awp_cond (b := _) rfl (fun hb1 => ?_) (fun hb1 => ?_)
  · try simp only [decide_eq_true_eq, Bool.not_eq_true', Bool.or_eq_true] at hb1
    -- region 2  decimals.go:63
    refine awp_rseq [2] (by rfl) fun K hK => ?_
    simp (decide := true) only [aOps_nil, ev, absV, absS, putD, Slots.put, Slots.keep, if_true, if_false, true_and, ↓ap_assign, pop_assign]
    repeat (with_reducible refine And.intro ?_ ?_; · first | trivial | omega | (intro hg; simp only [Bool.and_eq_true, Bool.or_eq_true, Bool.not_eq_true', Bool.and_eq_false_iff, Bool.or_eq_false_iff, Bool.not_eq_false', decide_eq_true_eq, decide_eq_false_iff_not, eqNil] at hg; omega) )
    apply hK; clear hK K
    refine awp_ret ?_
    try simp only [thenA_ret]
    refine retA_ret h (Sub.set hk0q0) (resPre_tmp (resPre_nil)) ?_
    simp (decide := true) only [Slots.get, if_true, and_true, resOf_one]
    rw [checkE, if_neg]
    rintro ⟨h1, h2, h3, h4, _⟩
    rw [h1] at hb1
    simp at hb1
    omega
  · try simp only [decide_eq_false_iff_not, Bool.not_eq_false', Bool.or_eq_false_iff] at hb1
    have hall : d.dig.all dg = true := by
      have := hb1.1.1.1
      simp only [numB, Bool.and_eq_true] at this
      exact this.2
    refine awp_skip ?_
    change Awp _ _ _ _ _ _ _
    refine awp_seq ?_
    -- region 3  decimals.go:65
    refine awp_rseq [1, 3, 4] (by rfl) fun K hK => ?_
    simp (decide := true) only [ev, putD, Slots.put, Slots.get, if_true, if_false, true_and, ↓ap_fieldAddr, pop_fieldAddr, fa27_0, ↓ap_loadL, apL_mk, pLoad_one ag4, fa27_1, pLoad_one ag9, fa27_2, pLoad_one ag3, rd_any, List.getD_cons_zero, List.getD_cons_succ, Nat.zero_add, lv_bool, lv_int, lv_str]
    repeat (with_reducible refine And.intro ?_ ?_; · first | trivial | omega | (intro hg; simp only [Bool.and_eq_true, Bool.or_eq_true, Bool.not_eq_true', Bool.and_eq_false_iff, Bool.or_eq_false_iff, Bool.not_eq_false', decide_eq_true_eq, decide_eq_false_iff_not, eqNil] at hg; omega) )
    refine aOps_callV (V := .tuple [decA (normE d.neg (natOf d.dig) d.scale).1, .int .i64 (normE d.neg (natOf d.dig) d.scale).2]) (by rfl) (by rfl) (c_normal w₀ _ d.neg d.dig d.scale hall (by omega) (by omega) (by omega)) ?_
    simp (decide := true) only [ev, putD, Slots.put, Slots.get, if_true, if_false, true_and, ↓ap_move, pop_move, ↓ap_extract, pop_extract, pExt_tuple, List.length_cons, List.length_nil, List.getD_cons_zero, List.getD_cons_succ, List.getD_cons_zero, List.getD_cons_succ, Nat.zero_add, Nat.reduceAdd, decA]
    repeat (with_reducible refine And.intro ?_ ?_; · first | trivial | omega | (intro hg; simp only [Bool.and_eq_true, Bool.or_eq_true, Bool.not_eq_true', Bool.and_eq_false_iff, Bool.or_eq_false_iff, Bool.not_eq_false', decide_eq_true_eq, decide_eq_false_iff_not, eqNil] at hg; omega) )
    refine aOps_alloc ze27 (cs := [.bool false, .str [], .int .i64 0]) (by rfl) fun k3q10 hk3q10 => ?_
    have hne := AHeap.ne_of hk3q10
    refine aOps_store (by rfl) (by rfl) (AHeap.set_same _ _ _) sz27 (by rfl) (by rfl) (by first | exact Nat.le_refl _ | decide | (simp; done) | (simp; omega)) (Nat.zero_le _) (by rfl) ?_
    simp only [AHeap.set_set, AVal.cells]
    simp (decide := true) only [aOps_nil, ev, putD, Slots.put, Slots.get, Slots.keep, if_true, if_false, true_and, ↓ap_assign, pop_assign, setAt, List.set_cons_zero, List.set_cons_succ, Nat.zero_add, Nat.reduceAdd]
    repeat (with_reducible refine And.intro ?_ ?_; · first | trivial | omega | (intro hg; simp only [Bool.and_eq_true, Bool.or_eq_true, Bool.not_eq_true', Bool.and_eq_false_iff, Bool.or_eq_false_iff, Bool.not_eq_false', decide_eq_true_eq, decide_eq_false_iff_not, eqNil] at hg; omega) )
    apply hK; clear hK K
    -- region 4  decimals.go:65
    refine awp_rseq [41] (by rfl) fun K hK => ?_
    simp (decide := true) only [aOps_nil, ev, absV, absS, putD, Slots.put, Slots.get, Slots.keep, if_true, if_false, true_and, ↓ap_move, pop_move, ↓ap_binOp, pop_binOp, isNilC_int, cond_false, pBinX_int, pI_neq, ↓ag_loadL, agQL_some, agL_mk, agP, agQ_some, nthDst, gKnown_bool, guardB_bool_false, implies_true, Bool.not_not, Bool.and_true, pLoad_agg ag27 sz27, ↓ag_binOp, isNilC_tmp, cv_binl, cv_binr, cp_binl, cp_binr, pBinX_agg, ne27, ↓ap_pick, pop_pick, pPick_bool, pickV_cond_rn, pickV_or, rd_any, cellsAt, List.getD_cons_zero, List.getD_cons_succ, Nat.zero_add, Nat.reduceAdd, lv_bool, lv_int, lv_str, allLive, Bool.and_true, rd_ne _ _ _ hne]
    repeat (with_reducible refine And.intro ?_ ?_; · first | trivial | omega | (intro hg; simp only [Bool.and_eq_true, Bool.or_eq_true, Bool.not_eq_true', Bool.and_eq_false_iff, Bool.or_eq_false_iff, Bool.not_eq_false', decide_eq_true_eq, decide_eq_false_iff_not, eqNil] at hg; omega) )
    apply hK; clear hK K
    refine awp_cond (b := _) rfl (fun hb2 => ?_) (fun hb2 => ?_)
    · try simp only [decide_eq_false_iff_not, Bool.not_eq_true', Bool.and_eq_false_iff, Bool.or_eq_true] at hb2
      -- region 5  decimals.go:66
      refine awp_rseq [2] (by rfl) fun K hK => ?_
      simp (decide := true) only [aOps_nil, ev, absV, absS, putD, Slots.put, Slots.keep, if_true, if_false, true_and, ↓ap_assign, pop_assign]
      repeat (with_reducible refine And.intro ?_ ?_; · first | trivial | omega | (intro hg; simp only [Bool.and_eq_true, Bool.or_eq_true, Bool.not_eq_true', Bool.and_eq_false_iff, Bool.or_eq_false_iff, Bool.not_eq_false', decide_eq_true_eq, decide_eq_false_iff_not, eqNil] at hg; omega) )
      apply hK; clear hK K
      refine awp_ret ?_
      try simp only [thenA_ret]
      refine retA_ret h ((Sub.set hk0q0).trans (Sub.set hk3q10)) (resPre_tmp (resPre_nil)) ?_
      simp (decide := true) only [Slots.get, if_true, and_true, resOf_one]
      rw [checkE, if_neg]
      rintro ⟨_, _, _, _, e⟩
      rw [e] at hb2
      simp at hb2
    · try simp only [decide_eq_true_eq, Bool.not_eq_false', Bool.and_eq_true, Bool.or_eq_false_iff] at hb2
      refine awp_skip ?_
      change Awp _ _ _ _ _ _ _
      -- region 6  decimals.go:68
      refine awp_rseq [2] (by rfl) fun K hK => ?_
      simp (decide := true) only [aOps_nil, ev, absV, absS, putD, Slots.put, Slots.keep, if_true, if_false, true_and, ↓ap_assign, pop_assign]
      repeat (with_reducible refine And.intro ?_ ?_; · first | trivial | omega | (intro hg; simp only [Bool.and_eq_true, Bool.or_eq_true, Bool.not_eq_true', Bool.and_eq_false_iff, Bool.or_eq_false_iff, Bool.not_eq_false', decide_eq_true_eq, decide_eq_false_iff_not, eqNil] at hg; omega) )
      apply hK; clear hK K
      refine awp_ret ?_
      try simp only [thenA_ret, inBlockA_ret]
      refine retA_ret h ((Sub.set hk0q0).trans (Sub.set hk3q10)) (resPre_tmp (resPre_nil)) ?_
      simp (decide := true) only [Slots.get, if_true, and_true, resOf_one]
      have e : normE d.neg (natOf d.dig) d.scale = (d, 0) := by
        obtain ⟨q1, q2, q3, q4⟩ := hb2
        refine Prod.ext ?_ q1
        have := D_eq (normE d.neg (natOf d.dig) d.scale).1 d
        rw [q2, q3, q4] at this
        simpa using this.symm
      rw [checkE, if_pos ⟨hb1.1.1.1, by omega, by omega, by omega, e⟩]
end Go.Proofs.YthiiakghjoeikaaGreatDoor

/-
  Contracts: New, both, padded, aligned, other, Neg of the package decimals.
  Conditions: none.
-/
namespace Go.Proofs.YthiiakghjoeikaaGreatDoor
open Go.AM
open Go.Proofs
open Go.Dec
open Go.Lib (decDigits)
set_option maxRecDepth 100000

theorem c_both (w₀ : World) (h : AHeap) (a b : D) (la : a.dig.length ≤ 9223372036854775807) (lb : b.dig.length ≤ 9223372036854775807) :
    ACall Tryz.prog w₀ 47 [decA a, decA b] h (fun v h' => v = .int .i64 (max (checkE a) (checkE b)) ∧ h' = h) := by
  refine acall_intro (n := 10) (rs := [.tmp 4]) Tryz.func47 rfl rfl rfl rfl (Nat.le_of_ble_eq_true rfl) ?_
  simp only [initSlots]
  -- region 0  decimals.go:72
  refine awp_rseq [2, 3] (by rfl) fun K hK => ?_
  refine aOps_box (by rfl) (by rfl) (by rfl) fun k0q0 hk0q0 => ?_
  skip
  refine aOps_box (by rfl) (by rfl) (by rfl) fun k0q1 hk0q1 => ?_
  have hne := AHeap.ne_of hk0q1
  simp (decide := true) only [aOps_nil, ev, absV, absS, putD, Slots.put, Slots.get, Slots.keep, if_true, if_false, true_and, ↓ap_assign, pop_assign, AVal.cells, Nat.zero_add, decA]
  repeat (with_reducible refine And.intro ?_ ?_; · first | trivial | omega | (intro hg; simp only [Bool.and_eq_true, Bool.or_eq_true, Bool.not_eq_true', Bool.and_eq_false_iff, Bool.or_eq_false_iff, Bool.not_eq_false', decide_eq_true_eq, decide_eq_false_iff_not, eqNil] at hg; omega) )
  apply hK; clear hK K
  -- region 1  decimals.go:72
  refine awp_dseq_any [4] mixed (by kernel_rfl) (by rfl) fun K hK => ?_
  simp (decide := true) only [ev, putD, Slots.put, Slots.get, if_true, if_false, true_and, ↓vp_load, pop_load, pLoad_agg ag27 sz27, rd_any, cellsAt, List.getD_cons_zero, List.getD_cons_succ, Nat.zero_add, Nat.reduceAdd, lv_bool, lv_int, lv_str, allLive, Bool.and_true, rd_ne _ _ _ hne]
  repeat (with_reducible refine And.intro ?_ ?_; · first | trivial | omega | (intro hg; simp only [Bool.and_eq_true, Bool.or_eq_true, Bool.not_eq_true', Bool.and_eq_false_iff, Bool.or_eq_false_iff, Bool.not_eq_false', decide_eq_true_eq, decide_eq_false_iff_not, eqNil] at hg; omega) )
  refine vOps_callV (V := .int .i64 (checkE a)) (by rfl) (by rfl) (c_Check w₀ _ a la) ?_
  simp (decide := true) only [ev, putD, Slots.put, Slots.get, if_true, if_false, true_and, ↓vp_load, pop_load, pLoad_agg ag27 sz27, rd_any, cellsAt, List.getD_cons_zero, List.getD_cons_succ, Nat.zero_add, Nat.reduceAdd, lv_bool, lv_int, lv_str, allLive, Bool.and_true]
  repeat (with_reducible refine And.intro ?_ ?_; · first | trivial | omega | (intro hg; simp only [Bool.and_eq_true, Bool.or_eq_true, Bool.not_eq_true', Bool.and_eq_false_iff, Bool.or_eq_false_iff, Bool.not_eq_false', decide_eq_true_eq, decide_eq_false_iff_not, eqNil] at hg; omega) )
  refine vOps_callV (V := .int .i64 (checkE b)) (by rfl) (by rfl) (c_Check w₀ _ b lb) ?_
  simp (decide := true) only [vOps_nil, ev, putD, Slots.put, Slots.get, Slots.keep, if_true, if_false, true_and, ↓vp_max, pop_max, pMax_int, evs, List.map_cons, List.map_nil, ↓vp_assign, pop_assign]
  repeat (with_reducible refine And.intro ?_ ?_; · first | trivial | omega | (intro hg; simp only [Bool.and_eq_true, Bool.or_eq_true, Bool.not_eq_true', Bool.and_eq_false_iff, Bool.or_eq_false_iff, Bool.not_eq_false', decide_eq_true_eq, decide_eq_false_iff_not, eqNil] at hg; omega) )
  apply hK; clear hK K
  refine awp_ret ?_
  try simp only [thenA_ret, inBlockA_ret]
  refine retA_ret h ((Sub.set hk0q0).trans (Sub.set hk0q1)) (resPre_tmp (resPre_nil)) ?_
  simp (decide := true) only [Slots.get, if_true, and_true, resOf_one]
  all_goals first | rfl | exact ⟨rfl, rfl⟩ | (simp (decide := true) only [if_true, if_false, *]; done) | (trace_state; fail)

def padL (s : List UInt8) (n : Int) : List UInt8 := List.replicate (n - s.length).toNat 48 ++ s

theorem c_padded (w₀ : World) (h : AHeap) (s : List UInt8) (n : Int) (hl : s.length ≤ 1073741824) (h0 : -1073741824 ≤ n) (h1 : n ≤ 1073741824) :
    ACall Tryz.prog w₀ 46 [.str s, .int .i64 n] h (fun v h' => v = .str (padL s n) ∧ h' = h) := by
  refine acall_intro (n := 13) (rs := [.tmp 4]) Tryz.func46 rfl rfl rfl rfl (Nat.le_of_ble_eq_true rfl) ?_
  simp only [initSlots]
  -- region 0  decimals.go:116
  refine awp_rseq [0, 1] (by rfl) fun K hK => ?_
  simp (decide := true) only [aOps_nil, ev, absV, absS, putD, Slots.put, Slots.keep, if_true, if_false, true_and, ↓ap_assign, pop_assign]
  repeat (with_reducible refine And.intro ?_ ?_; · first | trivial | omega | (intro hg; simp only [Bool.and_eq_true, Bool.or_eq_true, Bool.not_eq_true', Bool.and_eq_false_iff, Bool.or_eq_false_iff, Bool.not_eq_false', decide_eq_true_eq, decide_eq_false_iff_not, eqNil] at hg; omega) )
  apply hK; clear hK K
  -- region 1  decimals.go:117
  refine awp_rseq [4] (by rfl) fun K hK => ?_
  simp (decide := true) only [ev, absV, absS, putD, Slots.put, Slots.get, if_true, if_false, true_and, ↓ap_move, pop_move, ↓ap_len, pop_len, pLen_str Tryz.underlying9, ↓ap_binOp, pop_binOp, isNilC_tmp, cond_false, pBinX_int, pI_sub, ↓ap_max, pop_max, pMax_int, evs, List.map_cons, List.map_nil]
  try simp (disch := omega) only [wrap_i64]
  repeat (with_reducible refine And.intro ?_ ?_; · first | trivial | omega | (intro hg; simp only [Bool.and_eq_true, Bool.or_eq_true, Bool.not_eq_true', Bool.and_eq_false_iff, Bool.or_eq_false_iff, Bool.not_eq_false', decide_eq_true_eq, decide_eq_false_iff_not, eqNil] at hg; omega) )
  refine aOps_callV (V := .str (List.replicate (n - s.length).toNat 48)) (by rfl) (by rfl) (by
    have e := c_repeat w₀ h 48 (n - s.length).toNat (by omega)
    rw [show (((n - s.length).toNat : Nat) : Int) = max (n - s.length) 0 by omega] at e
    exact e) ?_
  simp (decide := true) only [aOps_nil, ev, putD, Slots.put, Slots.get, Slots.keep, if_true, if_false, true_and, ↓ap_move, pop_move, ↓ap_binOp, pop_binOp, isNilC_tmp, cond_false, pBinX_str, pS_add, ↓ap_assign, pop_assign]
  refine And.intro (by simp only [List.length_replicate]; omega) ?_
  apply hK; clear hK K
  refine awp_ret ?_
  try simp only [thenA_ret, inBlockA_ret]
  refine retA_ret _ (Sub.refl _) (resPre_tmp (resPre_nil)) ?_
  simp (decide := true) only [Slots.get, if_true, and_true, resOf_one]
  all_goals first | rfl | exact ⟨rfl, rfl⟩ | (simp (decide := true) only [if_true, if_false, *]; done) | (trace_state; fail)
end Go.Proofs.YthiiakghjoeikaaGreatDoor

/-
  Contracts: aligned, other, Neg, Compare of the package decimals; cmp.Compare at strings.
  Conditions: none.
-/
namespace Go.Proofs.YthiiakghjoeikaaGreatDoor
open Go.AM
open Go.Proofs
open Go.Dec
open Go.Lib (decDigits)
set_option maxRecDepth 100000

/-- A number's digits at a greater scale. -/
def extD (a : D) (s : Int) : List UInt8 := a.dig ++ List.replicate (s - a.scale).toNat 48
def alS (a b : D) : Int := max a.scale b.scale
def alN (a b : D) : Int := max ((extD a (alS a b)).length : Int) (extD b (alS a b)).length
structure Small (a : D) : Prop where
  l : a.dig.length ≤ 62
  s0 : 0 ≤ a.scale
  s1 : a.scale ≤ 62

theorem extD_length (a : D) (s : Int) : (extD a s).length = a.dig.length + (s - a.scale).toNat := by simp [extD]

theorem c_aligned (w₀ : World) (h : AHeap) (a b : D) (ha : Small a) (hb : Small b) :
    ACall Tryz.prog w₀ 50 [decA a, decA b] h (fun v h' => v = .tuple [.str (padL (extD a (alS a b)) (alN a b)), .str (padL (extD b (alS a b)) (alN a b)), .int .i64 (alS a b)] ∧ h' = h) := by
  have ha1 := ha.l
  have ha2 := ha.s0
  have ha3 := ha.s1
  have hb1 := hb.l
  have hb2 := hb.s0
  have hb3 := hb.s1
  have hsA := extD_length a (alS a b)
  have hsB := extD_length b (alS a b)
  have hS : alS a b = max a.scale b.scale := rfl
  have hN : alN a b = max ((extD a (alS a b)).length : Int) (extD b (alS a b)).length := rfl
  refine acall_intro (n := 41) (rs := [.tmp 4, .tmp 5, .tmp 6]) Tryz.func50 rfl rfl rfl rfl (Nat.le_of_ble_eq_true rfl) ?_
  simp only [initSlots]
  -- region 0  decimals.go:136
  refine awp_rseq [2, 3] (by rfl) fun K hK => ?_
  refine aOps_box (by rfl) (by rfl) (by rfl) fun k0q0 hk0q0 => ?_
  skip
  refine aOps_box (by rfl) (by rfl) (by rfl) fun k0q1 hk0q1 => ?_
  have hne := AHeap.ne_of hk0q1
  simp (decide := true) only [aOps_nil, ev, absV, absS, putD, Slots.put, Slots.get, Slots.keep, if_true, if_false, true_and, ↓ap_assign, pop_assign, AVal.cells, Nat.zero_add, decA]
  repeat (with_reducible refine And.intro ?_ ?_; · first | trivial | omega | (intro hg; simp only [Bool.and_eq_true, Bool.or_eq_true, Bool.not_eq_true', Bool.and_eq_false_iff, Bool.or_eq_false_iff, Bool.not_eq_false', decide_eq_true_eq, decide_eq_false_iff_not, eqNil] at hg; omega) )
  apply hK; clear hK K
  -- region 1  decimals.go:137
  refine awp_rseq [2, 3, 6] (by rfl) fun K hK => ?_
  simp (decide := true) only [aOps_nil, ev, putD, Slots.put, Slots.get, Slots.keep, if_true, if_false, true_and, ↓ap_fieldAddr, pop_fieldAddr, fa27_2, ↓ap_loadL, apL_mk, pLoad_one ag3, ↓ap_max, pop_max, pMax_int, evs, List.map_cons, List.map_nil, ↓ap_assign, pop_assign, rd_any, List.getD_cons_zero, List.getD_cons_succ, Nat.zero_add, lv_int, rd_ne _ _ _ hne]
  rw [← hS]
  apply hK; clear hK K
  -- region 2  decimals.go:138
  refine awp_dseq_any [3, 4, 6] mixed (by kernel_rfl) (by rfl) fun K hK => ?_
  simp (decide := true) only [ev, putD, Slots.put, Slots.get, if_true, if_false, true_and, ↓vp_fieldAddr, pop_fieldAddr, fa27_1, ↓vp_load, pop_load, pLoad_one ag9, ↓vp_move, pop_move, fa27_2, pLoad_one ag3, ↓vp_binOp, pop_binOp, isNilC_tmp, cond_false, pBinX_int, pI_sub, rd_any, List.getD_cons_zero, List.getD_cons_succ, Nat.zero_add, lv_int, lv_str, rd_ne _ _ _ hne]
  try simp (disch := omega) only [wrap_i64]
  repeat (with_reducible refine And.intro ?_ ?_; · first | trivial | omega | (intro hg; simp only [Bool.and_eq_true, Bool.or_eq_true, Bool.not_eq_true', Bool.and_eq_false_iff, Bool.or_eq_false_iff, Bool.not_eq_false', decide_eq_true_eq, decide_eq_false_iff_not, eqNil] at hg; omega) )
  refine vOps_callV (V := .str (List.replicate (alS a b - a.scale).toNat 48)) (by rfl) (by rfl) (by
    have e := c_repeat w₀ ((h.set k0q0 ⟨[.bool a.neg, .str a.dig, .int .i64 a.scale], 0⟩).set k0q1 ⟨[.bool b.neg, .str b.dig, .int .i64 b.scale], 0⟩) 48 (alS a b - a.scale).toNat (by omega)
    rw [show (((alS a b - a.scale).toNat : Nat) : Int) = alS a b - a.scale by omega] at e
    exact e) ?_
  simp (decide := true) only [vOps_nil, ev, putD, Slots.put, Slots.get, Slots.keep, if_true, if_false, true_and, ↓vp_binOp, pop_binOp, isNilC_tmp, cond_false, pBinX_str, pS_add, ↓vp_assign, pop_assign]
  refine And.intro (by simp only [List.length_replicate]; omega) ?_
  rw [show a.dig ++ List.replicate (alS a b - a.scale).toNat 48 = extD a (alS a b) from rfl]
  apply hK; clear hK K
  -- region 3  decimals.go:139
  refine awp_dseq_any [4, 5, 6] mixed (by kernel_rfl) (by rfl) fun K hK => ?_
  simp (decide := true) only [ev, putD, Slots.put, Slots.get, if_true, if_false, true_and, ↓vp_fieldAddr, pop_fieldAddr, fa27_1, ↓vp_load, pop_load, pLoad_one ag9, ↓vp_move, pop_move, fa27_2, pLoad_one ag3, ↓vp_binOp, pop_binOp, isNilC_tmp, cond_false, pBinX_int, pI_sub, rd_any, List.getD_cons_zero, List.getD_cons_succ, Nat.zero_add, lv_int, lv_str]
  try simp (disch := omega) only [wrap_i64]
  repeat (with_reducible refine And.intro ?_ ?_; · first | trivial | omega | (intro hg; simp only [Bool.and_eq_true, Bool.or_eq_true, Bool.not_eq_true', Bool.and_eq_false_iff, Bool.or_eq_false_iff, Bool.not_eq_false', decide_eq_true_eq, decide_eq_false_iff_not, eqNil] at hg; omega) )
  refine vOps_callV (V := .str (List.replicate (alS a b - b.scale).toNat 48)) (by rfl) (by rfl) (by
    have e := c_repeat w₀ ((h.set k0q0 ⟨[.bool a.neg, .str a.dig, .int .i64 a.scale], 0⟩).set k0q1 ⟨[.bool b.neg, .str b.dig, .int .i64 b.scale], 0⟩) 48 (alS a b - b.scale).toNat (by omega)
    rw [show (((alS a b - b.scale).toNat : Nat) : Int) = alS a b - b.scale by omega] at e
    exact e) ?_
  simp (decide := true) only [vOps_nil, ev, putD, Slots.put, Slots.get, Slots.keep, if_true, if_false, true_and, ↓vp_binOp, pop_binOp, isNilC_tmp, cond_false, pBinX_str, pS_add, ↓vp_assign, pop_assign]
  refine And.intro (by simp only [List.length_replicate]; omega) ?_
  rw [show b.dig ++ List.replicate (alS a b - b.scale).toNat 48 = extD b (alS a b) from rfl]
  apply hK; clear hK K
  -- region 4  decimals.go:140
  refine awp_rseq [4, 5, 6, 7] (by rfl) fun K hK => ?_
  simp (decide := true) only [aOps_nil, ev, putD, Slots.put, Slots.get, Slots.keep, if_true, if_false, true_and, ↓ap_move, pop_move, ↓ap_len, pop_len, pLen_str Tryz.underlying9, ↓ap_max, pop_max, pMax_int, evs, List.map_cons, List.map_nil, ↓ap_assign, pop_assign]
  rw [← hN]
  apply hK; clear hK K
  -- region 5  decimals.go:141
  refine awp_rseq [4, 5, 6] (by rfl) fun K hK => ?_
  simp (decide := true) only [ev, putD, Slots.put, Slots.get, if_true, if_false, true_and, ↓ap_move, pop_move]
  repeat (with_reducible refine And.intro ?_ ?_; · first | trivial | omega | (intro hg; simp only [Bool.and_eq_true, Bool.or_eq_true, Bool.not_eq_true', Bool.and_eq_false_iff, Bool.or_eq_false_iff, Bool.not_eq_false', decide_eq_true_eq, decide_eq_false_iff_not, eqNil] at hg; omega) )
  refine aOps_callV (V := .str (padL (extD a (alS a b)) (alN a b))) (by rfl) (by rfl) (c_padded w₀ _ _ _ (by omega) (by omega) (by omega)) ?_
  simp (decide := true) only [ev, putD, Slots.put, Slots.get, if_true, if_false, true_and, ↓ap_move, pop_move]
  repeat (with_reducible refine And.intro ?_ ?_; · first | trivial | omega | (intro hg; simp only [Bool.and_eq_true, Bool.or_eq_true, Bool.not_eq_true', Bool.and_eq_false_iff, Bool.or_eq_false_iff, Bool.not_eq_false', decide_eq_true_eq, decide_eq_false_iff_not, eqNil] at hg; omega) )
  refine aOps_callV (V := .str (padL (extD b (alS a b)) (alN a b))) (by rfl) (by rfl) (c_padded w₀ _ _ _ (by omega) (by omega) (by omega)) ?_
  simp (decide := true) only [aOps_nil, ev, putD, Slots.put, Slots.get, Slots.keep, if_true, if_false, true_and, ↓ap_move, pop_move, ↓ap_assign, pop_assign]
  repeat (with_reducible refine And.intro ?_ ?_; · first | trivial | omega | (intro hg; simp only [Bool.and_eq_true, Bool.or_eq_true, Bool.not_eq_true', Bool.and_eq_false_iff, Bool.or_eq_false_iff, Bool.not_eq_false', decide_eq_true_eq, decide_eq_false_iff_not, eqNil] at hg; omega) )
  apply hK; clear hK K
  refine awp_ret ?_
  try simp only [thenA_ret, inBlockA_ret]
  refine retA_ret h ((Sub.set hk0q0).trans (Sub.set hk0q1)) (resPre_tmp (resPre_tmp (resPre_tmp (resPre_nil)))) ?_
  simp (decide := true) only [Slots.get, if_true, if_false, and_true, resOf_three]
  all_goals first | rfl | exact ⟨rfl, rfl⟩ | (simp (decide := true) only [if_true, if_false, *]; done) | (trace_state; fail)

/-- The number with the other sign. -/
def otherD (d : D) : D := ⟨!d.neg && !decide (d.dig = [48]), d.dig, d.scale⟩

theorem c_other (w₀ : World) (h : AHeap) (d : D) : ACall Tryz.prog w₀ 58 [decA d] h (fun v h' => v = decA (otherD d) ∧ h' = h) := by
  refine acall_intro (n := 13) (rs := [.cell 2 27]) Tryz.func58 rfl rfl rfl rfl (Nat.le_of_ble_eq_true rfl) ?_
  simp only [initSlots]
  -- region 0  decimals.go:162
  refine awp_rseq [1, 2] (by rfl) fun K hK => ?_
  refine aOps_box (by rfl) (by rfl) (by rfl) fun k0q0 hk0q0 => ?_
  skip
  refine aOps_alloc ze27 (cs := [.bool false, .str [], .int .i64 0]) (by rfl) fun k0q1 hk0q1 => ?_
  have hne := AHeap.ne_of hk0q1
  simp (decide := true) only [aOps_nil, ev, putD, Slots.put, Slots.get, Slots.keep, if_true, if_false, AVal.cells, decA]
  repeat (with_reducible refine And.intro ?_ ?_; · first | trivial | omega | (intro hg; simp only [Bool.and_eq_true, Bool.or_eq_true, Bool.not_eq_true', Bool.and_eq_false_iff, Bool.or_eq_false_iff, Bool.not_eq_false', decide_eq_true_eq, decide_eq_false_iff_not, eqNil] at hg; omega) )
  apply hK; clear hK K
  -- region 1  decimals.go:163
  refine awp_rseq [1, 2] (by rfl) fun K hK => ?_
  simp (decide := true) only [ev, absV, absS, putD, Slots.put, Slots.get, if_true, if_false, true_and, ↓ap_fieldAddr, pop_fieldAddr, fa27_0, ↓ap_loadL, apL_mk, pLoad_one ag4, ↓ap_unOp, pop_unOp, pU_not, ↓ap_move, pop_move, ↓ag_fieldAddr, agP, agQ_some, nthDst, gKnown_bool, guardB_bool_true, implies_true, fa27_1, ↓ag_loadL, agQL_some, agL_mk, agL_ld1, pLoad_one ag9, ↓ag_binOp, pop_binOp, isNilC_str, cond_false, cv_binl, cp_binl, pBinX_str, pS_neq, ↓ap_pick, pop_pick, pPick_bool, pickV_cond_l, pickV_and, rd_any, List.getD_cons_zero, List.getD_cons_succ, Nat.zero_add, lv_bool, lv_str, rd_ne _ _ _ hne]
  try simp (disch := omega) only [wrap_i64, wrap_u8]
  repeat (with_reducible refine And.intro ?_ ?_; · first | trivial | omega | (intro hg; simp only [Bool.and_eq_true, Bool.or_eq_true, Bool.not_eq_true', Bool.and_eq_false_iff, Bool.or_eq_false_iff, Bool.not_eq_false', decide_eq_true_eq, decide_eq_false_iff_not, eqNil] at hg; omega) )
  refine aOps_store (b := ⟨[.bool d.neg, .str d.dig, .int .i64 d.scale], 0⟩) (by rfl) (by rfl) (by rw [AHeap.set_ne _ _ hne, AHeap.set_same]) sz4 (by rfl) (by rfl) (by simp) (Nat.zero_le _) (by rfl) ?_
  rw [AHeap.set_comm _ _ _ hne, AHeap.set_set]
  simp (decide := true) only [aOps_nil, ev, putD, Slots.get, Slots.keep, if_true, if_false, AVal.cells, setAt, List.set_cons_zero]
  repeat (with_reducible refine And.intro ?_ ?_; · first | trivial | omega | (intro hg; simp only [Bool.and_eq_true, Bool.or_eq_true, Bool.not_eq_true', Bool.and_eq_false_iff, Bool.or_eq_false_iff, Bool.not_eq_false', decide_eq_true_eq, decide_eq_false_iff_not, eqNil] at hg; omega) )
  apply hK; clear hK K
  -- region 2  decimals.go:164
  refine awp_rseq [2] (by rfl) fun K hK => ?_
  simp (decide := true) only [ev, putD, Slots.put, Slots.get, if_true, if_false, true_and, ↓ap_loadL, apL_mk, pLoad_agg ag27 sz27, rd_any, cellsAt, List.getD_cons_zero, List.getD_cons_succ, Nat.zero_add, Nat.reduceAdd, lv_bool, lv_int, lv_str, allLive, Bool.and_true, rd_ne _ _ _ hne]
  repeat (with_reducible refine And.intro ?_ ?_; · first | trivial | omega | (intro hg; simp only [Bool.and_eq_true, Bool.or_eq_true, Bool.not_eq_true', Bool.and_eq_false_iff, Bool.or_eq_false_iff, Bool.not_eq_false', decide_eq_true_eq, decide_eq_false_iff_not, eqNil] at hg; omega) )
  refine aOps_store (by rfl) (by rfl) (AHeap.set_same _ _ _) sz27 (by rfl) (by rfl) (by first | exact Nat.le_refl _ | decide | (simp; done) | (simp; omega)) (Nat.zero_le _) (by rfl) ?_
  simp only [AHeap.set_set, AVal.cells]
  simp (decide := true) only [aOps_nil, ev, putD, Slots.get, Slots.keep, if_true, if_false, setAt, List.set_cons_zero, List.set_cons_succ, Nat.zero_add, Nat.reduceAdd]
  repeat (with_reducible refine And.intro ?_ ?_; · first | trivial | omega | (intro hg; simp only [Bool.and_eq_true, Bool.or_eq_true, Bool.not_eq_true', Bool.and_eq_false_iff, Bool.or_eq_false_iff, Bool.not_eq_false', decide_eq_true_eq, decide_eq_false_iff_not, eqNil] at hg; omega) )
  apply hK; clear hK K
  refine awp_ret ?_
  try simp only [thenA_ret, inBlockA_ret]
  refine retA_ret h (Sub.two hk0q0 hk0q1) (?_) ?_
  · simp (decide := true) only [resPre, resV_cell, Slots.get, if_true, and_true, resV_cell, pLoad_agg ag27 sz27, rd_set, cellsAt, List.getD_cons_zero, List.getD_cons_succ, Nat.zero_add, Nat.reduceAdd, lv_bool, lv_int, lv_str, allLive, Bool.and_true, cellsAt, List.getD_cons_zero, List.getD_cons_succ, Nat.zero_add, Nat.reduceAdd, lv_bool, lv_int, lv_str, allLive, Bool.and_true]
  
  simp (decide := true) only [Slots.get, if_true, and_true, resOfG_one, resV_cell, pLoad_agg ag27 sz27, rd_set, cellsAt, List.getD_cons_zero, List.getD_cons_succ, Nat.zero_add, Nat.reduceAdd, lv_bool, lv_int, lv_str, allLive, Bool.and_true, cellsAt, List.getD_cons_zero, List.getD_cons_succ, Nat.zero_add, Nat.reduceAdd, lv_bool, lv_int, lv_str, allLive, Bool.and_true, decA]
  all_goals first | rfl | exact ⟨rfl, rfl⟩ | (simp (decide := true) only [if_true, if_false, *]; done) | (trace_state; fail)

theorem Small_of_check {d : D} (h : checkE d = 0) : Small d ∧ d.dig.all dg = true ∧ d.dig ≠ [] ∧ normE d.neg (natOf d.dig) d.scale = (d, 0) := by
  unfold checkE at h
  split at h
  · rename_i hh
    obtain ⟨h1, h2, h3, h4, h5⟩ := hh
    simp only [numB, Bool.and_eq_true, Bool.not_eq_true', decide_eq_false_iff_not] at h1
    exact ⟨⟨h2, h3, h4⟩, h1.2, h1.1, h5⟩
  · cases h
theorem checkE_01 (d : D) : checkE d = 0 ∨ checkE d = 1 := by
  unfold checkE
  split
  · exact .inl rfl
  · exact .inr rfl

end Go.Proofs.YthiiakghjoeikaaGreatDoor

/-
  Contracts: column, plus, minus of the package decimals.
  Conditions: none.
-/
namespace Go.Proofs.YthiiakghjoeikaaGreatDoor
open Go.AM
open Go.Proofs
open Go.Dec
open Go.Lib (decDigits)
set_option maxRecDepth 100000

def dvI (b : UInt8) : Int := (b.toNat : Int) - 48
theorem dg_at {s : List UInt8} (hs : s.all dg = true) (i : Nat) (hi : i < s.length) : 48 ≤ (s.getD i 0).toNat ∧ (s.getD i 0).toNat ≤ 57 := by
  rw [List.all_eq_true] at hs
  have e : s.getD i 0 = s[i] := by simp [List.getD, List.getElem?_eq_getElem hi]
  rw [e]
  exact (dg_iff _).1 (hs _ (List.getElem_mem hi))
theorem fill_at (n k : Nat) (s : List UInt8) (b : UInt8) (hk : k < n) (hs : s.length = k) : (List.replicate (n - k) 0 ++ s).set (n - 1 - k) b = List.replicate (n - (k + 1)) 0 ++ (b :: s) := by
  have e : List.replicate (n - k) (0 : UInt8) = List.replicate (n - (k + 1)) 0 ++ [0] := by
    rw [show n - k = (n - (k + 1)) + 1 by omega, List.replicate_succ']
  rw [e, List.append_assoc, List.set_append_right _ _ (by simp; omega)]
  congr 1
  have e2 : n - 1 - k - (List.replicate (n - (k + 1)) (0 : UInt8)).length = 0 := by simp; omega
  rw [e2]
  rfl

theorem c_column (w₀ : World) (h : AHeap) (x y : List UInt8) (f : FuncId) (Inv : Nat → List UInt8 → Int → Prop) (hx : x.all dg = true) (hy : y.all dg = true) (hxy : x.length = y.length) (hl : x.length ≤ 1073741824) (h0 : Inv 0 [] 0)
    (step : ∀ k s c, k < x.length → s.length = k → Inv k s c → ∃ d c', (∀ h, ACall Tryz.prog w₀ f [.int .i64 (dvI (x.getD (x.length - 1 - k) 0)), .int .i64 (dvI (y.getD (x.length - 1 - k) 0)), .int .i64 c] h (fun v h' => v = .tuple [.int .i64 d, .int .i64 c'] ∧ h' = h)) ∧ 0 ≤ d ∧ d ≤ 9 ∧ Inv (k + 1) (dch d.toNat :: s) c') :
    ACall Tryz.prog w₀ 67 [.str x, .str y, .func f []] h (fun v h' => (∃ s c, s.length = x.length ∧ Inv x.length s c ∧ v = .tuple [.str s, .int .i64 c]) ∧ h' = h) := by
  refine acall_intro (n := 52) (rs := [.tmp 6, .tmp 7]) Tryz.func67 rfl rfl rfl rfl (Nat.le_of_ble_eq_true rfl) ?_
  simp only [initSlots]
  -- region 0  decimals.go:176
  refine awp_rseq [0, 1, 2] (by rfl) fun K hK => ?_
  simp (decide := true) only [aOps_nil, ev, absV, absS, putD, Slots.put, Slots.keep, if_true, if_false, true_and, ↓ap_assign, pop_assign]
  repeat (with_reducible refine And.intro ?_ ?_; · first | trivial | omega | (intro hg; simp only [Bool.and_eq_true, Bool.or_eq_true, Bool.not_eq_true', Bool.and_eq_false_iff, Bool.or_eq_false_iff, Bool.not_eq_false', decide_eq_true_eq, decide_eq_false_iff_not, eqNil] at hg; omega) )
  apply hK; clear hK K
  -- region 1  decimals.go:177
  refine awp_rseq [0, 1, 2, 8] (by rfl) fun K hK => ?_
  simp (decide := true) only [ev, putD, Slots.put, Slots.get, if_true, if_false, true_and, ↓ap_move, pop_move, ↓ap_len, pop_len, pLen_str Tryz.underlying9]
  repeat (with_reducible refine And.intro ?_ ?_; · first | trivial | omega | (intro hg; simp only [Bool.and_eq_true, Bool.or_eq_true, Bool.not_eq_true', Bool.and_eq_false_iff, Bool.or_eq_false_iff, Bool.not_eq_false', decide_eq_true_eq, decide_eq_false_iff_not, eqNil] at hg; omega) )
  refine aOps_makeBytes Tryz.underlying22 sz5 by5 ze5 (by rfl) (by rfl) (by omega) (by omega) fun k1 hk1 => ?_
  simp (decide := true) only [aOps_nil, ev, putD, Slots.put, Slots.get, Slots.keep, if_true, if_false, true_and, ↓ap_assign, pop_assign]
  repeat (with_reducible refine And.intro ?_ ?_; · first | trivial | omega | (intro hg; simp only [Bool.and_eq_true, Bool.or_eq_true, Bool.not_eq_true', Bool.and_eq_false_iff, Bool.or_eq_false_iff, Bool.not_eq_false', decide_eq_true_eq, decide_eq_false_iff_not, eqNil] at hg; omega) )
  apply hK; clear hK K
  -- region 2  decimals.go:178
  refine awp_rseq [0, 1, 2, 8, 9] (by rfl) fun K hK => ?_
  simp (decide := true) only [aOps_nil, ev, absV, absS, putD, Slots.put, Slots.keep, if_true, if_false, true_and, ↓ap_assign, pop_assign]
  repeat (with_reducible refine And.intro ?_ ?_; · first | trivial | omega | (intro hg; simp only [Bool.and_eq_true, Bool.or_eq_true, Bool.not_eq_true', Bool.and_eq_false_iff, Bool.or_eq_false_iff, Bool.not_eq_false', decide_eq_true_eq, decide_eq_false_iff_not, eqNil] at hg; omega) )
  apply hK; clear hK K
  refine awp_seq ?_
  -- region 3  decimals.go:179
  refine awp_rseq [0, 1, 2, 8, 9, 17, 18] (by rfl) fun K hK => ?_
  simp (decide := true) only [aOps_nil, ev, absV, absS, putD, Slots.put, Slots.get, Slots.keep, if_true, if_false, true_and, ↓ap_move, pop_move, ↓ap_len, pop_len, pLen_str Tryz.underlying9]
  repeat (with_reducible refine And.intro ?_ ?_; · first | trivial | omega | (intro hg; simp only [Bool.and_eq_true, Bool.or_eq_true, Bool.not_eq_true', Bool.and_eq_false_iff, Bool.or_eq_false_iff, Bool.not_eq_false', decide_eq_true_eq, decide_eq_false_iff_not, eqNil] at hg; omega) )
  apply hK; clear hK K
  refine awp_block ?_
  refine awp_loopG [0, 1, 2, 8, 9, 17, 18] (fun g : Nat × List UInt8 × Int => [(0, .str x), (1, .str y), (2, .func f []), (8, .slice (.own k1) 0 x.length (.exact x.length)), (9, .int .i64 g.2.2), (17, .int .i64 x.length), (18, .int .i64 g.1)]) (fun g : Nat × List UInt8 × Int => h.set k1 ⟨byteCells (List.replicate (x.length - g.1) 0 ++ g.2.1), 0⟩) (fun g : Nat × List UInt8 × Int => g.1 ≤ x.length ∧ g.2.1.length = g.1 ∧ Inv g.1 g.2.1 g.2.2) (fun g : Nat × List UInt8 × Int => x.length - g.1) (0, [], 0) rfl (by simp only [Nat.sub_zero, List.append_nil, Int.toNat_natCast]; exact Sub.refl _) ⟨Nat.zero_le _, rfl, h0⟩ ?_
  rintro ⟨k, s, c⟩ ⟨hk, hs, hi⟩
  simp only at hk hs hi
  -- region 4  decimals.go:179
  refine awp_rseq [0, 1, 2, 8, 9, 17, 18, 19] (by rfl) fun K hK => ?_
  simp (decide := true) only [aOps_nil, ev, putD, Slots.put, Slots.get, Slots.keep, if_true, if_false, true_and, ↓ap_binOp, pop_binOp, isNilC_tmp, cond_false, pBinX_int, pI_lss]
  repeat (with_reducible refine And.intro ?_ ?_; · first | trivial | omega | (intro hg; simp only [Bool.and_eq_true, Bool.or_eq_true, Bool.not_eq_true', Bool.and_eq_false_iff, Bool.or_eq_false_iff, Bool.not_eq_false', decide_eq_true_eq, decide_eq_false_iff_not, eqNil] at hg; omega) )
  apply hK; clear hK K
  refine awp_seq (awp_cond (b := _) rfl (fun hb1 => ?_) (fun hb1 => ?_))
  · try simp only [decide_eq_true_eq] at hb1
    obtain ⟨d, c', hcall, hd0, hd9, hi'⟩ := step k s c (by omega) hs hi
    have hxi := dg_at hx (x.length - 1 - k) (by omega)
    have hyi := dg_at hy (x.length - 1 - k) (by omega)
    have hidx : ((x.length : Int) - 1 - k).toNat = x.length - 1 - k := by omega
    refine awp_skip ?_
    change Awp _ _ _ _ _ _ _
    refine awp_seq ?_
    refine awp_block ?_
    -- region 5  decimals.go:179
    refine awp_rseq [0, 1, 2, 8, 9, 10, 17, 18] (by rfl) fun K hK => ?_
    simp (decide := true) only [aOps_nil, ev, putD, Slots.put, Slots.get, Slots.keep, if_true, if_false, true_and, ↓ap_move, pop_move, ↓ap_assign, pop_assign]
    repeat (with_reducible refine And.intro ?_ ?_; · first | trivial | omega | (intro hg; simp only [Bool.and_eq_true, Bool.or_eq_true, Bool.not_eq_true', Bool.and_eq_false_iff, Bool.or_eq_false_iff, Bool.not_eq_false', decide_eq_true_eq, decide_eq_false_iff_not, eqNil] at hg; omega) )
    apply hK; clear hK K
    -- region 6  decimals.go:180
    refine awp_rseq [0, 1, 2, 8, 9, 11, 17, 18] (by rfl) fun K hK => ?_
    simp (decide := true) only [aOps_nil, ev, absV, absS, putD, Slots.put, Slots.get, Slots.keep, if_true, if_false, true_and, ↓ap_move, pop_move, ↓ap_len, pop_len, pLen_str Tryz.underlying9, ↓ap_binOp, pop_binOp, isNilC_int, cond_false, pBinX_int, pI_sub, isNilC_tmp, ↓ap_assign, pop_assign]
    try simp (disch := omega) only [wrap_i64]
    repeat (with_reducible refine And.intro ?_ ?_; · first | trivial | omega | (intro hg; simp only [Bool.and_eq_true, Bool.or_eq_true, Bool.not_eq_true', Bool.and_eq_false_iff, Bool.or_eq_false_iff, Bool.not_eq_false', decide_eq_true_eq, decide_eq_false_iff_not, eqNil] at hg; omega) )
    apply hK; clear hK K
    -- region 7  decimals.go:181
    refine awp_rseq [0, 1, 2, 8, 9, 11, 17, 18] (by rfl) fun K hK => ?_
    simp (decide := true) only [aOps_nil, ev, absV, absS, putD, Slots.put, Slots.keep, if_true, if_false, true_and, ↓ap_assign, pop_assign]
    repeat (with_reducible refine And.intro ?_ ?_; · first | trivial | omega | (intro hg; simp only [Bool.and_eq_true, Bool.or_eq_true, Bool.not_eq_true', Bool.and_eq_false_iff, Bool.or_eq_false_iff, Bool.not_eq_false', decide_eq_true_eq, decide_eq_false_iff_not, eqNil] at hg; omega) )
    apply hK; clear hK K
    -- region 8  decimals.go:182
    refine awp_dseq_any [0, 1, 2, 8, 9, 11, 12, 17, 18] mixed (by kernel_rfl) (by rfl) fun K hK => ?_
    simp (decide := true) only [ev, absV, absS, putD, Slots.put, Slots.get, if_true, if_false, true_and, ↓vp_move, pop_move, ↓vp_index, pop_index, pIndex_str Tryz.underlying9, ↓vp_binOp, pop_binOp, isNilC_int, cond_false, pBinX_int, pI_sub, ↓vp_convert _ _ _ (es_int Tryz.underlying5 Tryz.underlying3), pop_convert, pConv_int Tryz.underlying5 Tryz.underlying3, hidx]
    try simp (disch := omega) only [wrap_i64, wrap_u8]
    repeat (with_reducible refine And.intro ?_ ?_; · first | trivial | omega | (intro hg; simp only [Bool.and_eq_true, Bool.or_eq_true, Bool.not_eq_true', Bool.and_eq_false_iff, Bool.or_eq_false_iff, Bool.not_eq_false', decide_eq_true_eq, decide_eq_false_iff_not, eqNil] at hg; omega) )
    refine vOps_callV (V := .tuple [.int .i64 d, .int .i64 c']) (by rfl) (by rfl) (hcall _) ?_
    simp (decide := true) only [vOps_nil, ev, putD, Slots.put, Slots.get, Slots.keep, if_true, if_false, true_and, ↓vp_move, pop_move, ↓vp_extract, pop_extract, pExt_tuple, List.length_cons, List.length_nil, List.getD_cons_zero, List.getD_cons_succ, ↓vp_assign, pop_assign]
    repeat (with_reducible refine And.intro ?_ ?_; · first | trivial | omega | (intro hg; simp only [Bool.and_eq_true, Bool.or_eq_true, Bool.not_eq_true', Bool.and_eq_false_iff, Bool.or_eq_false_iff, Bool.not_eq_false', decide_eq_true_eq, decide_eq_false_iff_not, eqNil] at hg; omega) )
    apply hK; clear hK K
    -- region 9  decimals.go:183
    refine awp_r [0, 1, 2, 8, 9, 17, 18] (by rfl) ?_
    simp (decide := true) only [ev, absV, absS, putD, Slots.put, Slots.get, if_true, if_false, true_and, ↓ap_move, pop_move, ↓ap_binOp, pop_binOp, isNilC_tmp, cond_false, pBinX_int, pI_add, ↓ap_convert _ _ _ (es_int Tryz.underlying3 Tryz.underlying5), pop_convert, pConv_int Tryz.underlying3 Tryz.underlying5]
    try simp (disch := omega) only [wrap_i64, wrap_u8]
    try simp (decide := true) only [ev, putD, Slots.put, Slots.get, if_true, if_false, ↓ap_indexAddrL, apL_mk, pIndexAddr_slice Tryz.underlying22 sz5]
    repeat (with_reducible refine And.intro ?_ ?_; · first | trivial | omega | (intro hg; simp only [Bool.and_eq_true, Bool.or_eq_true, Bool.not_eq_true', Bool.and_eq_false_iff, Bool.or_eq_false_iff, Bool.not_eq_false', decide_eq_true_eq, decide_eq_false_iff_not, eqNil] at hg; omega) )
    refine aOps_storeByte (i := x.length - 1 - k) (by rfl) (by rfl) sz5 (by rfl) (by omega) (by simp; omega) (Nat.zero_le _) (by omega) (by omega) ?_
    simp (decide := true) only [aOps_nil, putD, Slots.keep, if_true, if_false]
    repeat (with_reducible refine And.intro ?_ ?_; · first | trivial | omega | (intro hg; simp only [Bool.and_eq_true, Bool.or_eq_true, Bool.not_eq_true', Bool.and_eq_false_iff, Bool.or_eq_false_iff, Bool.not_eq_false', decide_eq_true_eq, decide_eq_false_iff_not, eqNil] at hg; omega) )
    change Awp _ _ _ _ _ _ _
    -- region 10  decimals.go:179
    refine awp_r [0, 1, 2, 8, 9, 17, 18] (by rfl) ?_
    simp (decide := true) only [aOps_nil, ev, absV, absS, putD, Slots.put, Slots.get, Slots.keep, if_true, if_false, true_and, ↓ap_binOp, pop_binOp, isNilC_int, cond_false, pBinX_int, pI_add, ↓ap_move, pop_move]
    try simp (disch := omega) only [wrap_i64]
    repeat (with_reducible refine And.intro ?_ ?_; · first | trivial | omega | (intro hg; simp only [Bool.and_eq_true, Bool.or_eq_true, Bool.not_eq_true', Bool.and_eq_false_iff, Bool.or_eq_false_iff, Bool.not_eq_false', decide_eq_true_eq, decide_eq_false_iff_not, eqNil] at hg; omega) )
    try simp only [thenA_normal]
    refine ⟨(k + 1, dch d.toNat :: s, c'), rfl, ?_, ⟨by simp only; omega, by simp [hs], hi'⟩, by simp only; omega⟩
    rw [show UInt8.ofNat (48 + d).toNat = dch d.toNat by rw [dch]; congr 1; omega, fill_at x.length k s _ (by omega) hs]
    exact Sub.refl _
  · try simp only [decide_eq_false_iff_not] at hb1
    have hkk : k = x.length := by omega
    subst hkk
    simp only [Nat.sub_self, List.replicate_zero, List.nil_append]
    refine awp_exit ?_
    change Awp _ _ _ _ _ _ _
    -- region 11  decimals.go:185
    refine awp_rseq [6, 7] (by rfl) fun K hK => ?_
    simp (decide := true) only [aOps_nil, ev, putD, Slots.put, Slots.get, Slots.keep, if_true, if_false, true_and, ↓ap_move, pop_move, ↓ap_convert _ _ _ (es_str Tryz.underlying22 Tryz.underlying9), pop_convert, ↓ap_assign, pop_assign, (IsB.own (w₀ := w₀) (AHeap.set_same h k1 _) hs.symm (c := .exact x.length) (Nat.le_refl _)).conv Tryz.underlying22 Tryz.underlying9 Tryz.underlying5]
    try simp (disch := omega) only [wrap_i64, wrap_u8]
    repeat (with_reducible refine And.intro ?_ ?_; · first | trivial | omega | (intro hg; simp only [Bool.and_eq_true, Bool.or_eq_true, Bool.not_eq_true', Bool.and_eq_false_iff, Bool.or_eq_false_iff, Bool.not_eq_false', decide_eq_true_eq, decide_eq_false_iff_not, eqNil] at hg; omega) )
    apply hK; clear hK K
    refine awp_ret ?_
    try simp only [thenA_ret, inBlockA_ret]
    refine retA_ret h (Sub.set hk1) (resPre_tmp (resPre_tmp (resPre_nil))) ?_
    simp (decide := true) only [Slots.get, if_true, if_false, and_true, resOf_two]
    exact ⟨s, c, hs, hi, rfl⟩

theorem c_plus1 (w₀ : World) (h : AHeap) (a b c : Int) (ha : 0 ≤ a ∧ a ≤ 9) (hb : 0 ≤ b ∧ b ≤ 9) (hc : 0 ≤ c ∧ c ≤ 1) :
    ACall Tryz.prog w₀ 68 [.int .i64 a, .int .i64 b, .int .i64 c] h (fun v h' => v = .tuple [.int .i64 ((a + b + c) % 10), .int .i64 ((a + b + c) / 10)] ∧ h' = h) := by
  refine acall_intro (n := 20) (rs := [.tmp 6, .tmp 7]) Tryz.func68 rfl rfl rfl rfl (Nat.le_of_ble_eq_true rfl) ?_
  simp only [initSlots]
  -- region 0  decimals.go:190
  refine awp_rseq [0, 1, 2] (by rfl) fun K hK => ?_
  simp (decide := true) only [aOps_nil, ev, absV, absS, putD, Slots.put, Slots.keep, if_true, if_false, true_and, ↓ap_assign, pop_assign]
  repeat (with_reducible refine And.intro ?_ ?_; · first | trivial | omega | (intro hg; simp only [Bool.and_eq_true, Bool.or_eq_true, Bool.not_eq_true', Bool.and_eq_false_iff, Bool.or_eq_false_iff, Bool.not_eq_false', decide_eq_true_eq, decide_eq_false_iff_not, eqNil] at hg; omega) )
  apply hK; clear hK K
  -- region 1  decimals.go:190
  refine awp_rseq [6, 7] (by rfl) fun K hK => ?_
  simp (decide := true) only [aOps_nil, ev, absV, absS, putD, Slots.put, Slots.get, Slots.keep, if_true, if_false, true_and, ↓ap_move, pop_move, ↓ap_binOp, pop_binOp, isNilC_tmp, cond_false, pBinX_int, pI_add, isNilC_int, pI_rem, pI_quo, ↓ap_assign, pop_assign]
  try simp (disch := omega) only [wrap_i64]
  repeat (with_reducible refine And.intro ?_ ?_; · first | trivial | omega | (intro hg; simp only [Bool.and_eq_true, Bool.or_eq_true, Bool.not_eq_true', Bool.and_eq_false_iff, Bool.or_eq_false_iff, Bool.not_eq_false', decide_eq_true_eq, decide_eq_false_iff_not, eqNil] at hg; omega) )
  apply hK; clear hK K
  refine awp_ret ?_
  try simp only [thenA_ret, inBlockA_ret]
  refine retA_ret _ (Sub.refl _) (resPre_tmp (resPre_tmp (resPre_nil))) ?_
  simp (decide := true) only [Slots.get, if_true, if_false, and_true, resOf_two]
  rw [Int.tmod_eq_emod_of_nonneg (by omega), Int.tdiv_eq_ediv_of_nonneg (by omega), wrap_i64 (by omega) (by omega)]

theorem c_minus1 (w₀ : World) (h : AHeap) (a b c : Int) (ha : 0 ≤ a ∧ a ≤ 9) (hb : 0 ≤ b ∧ b ≤ 9) (hc : 0 ≤ c ∧ c ≤ 1) :
    ACall Tryz.prog w₀ 69 [.int .i64 a, .int .i64 b, .int .i64 c] h (fun v h' => v = .tuple [.int .i64 (if a - b - c < 0 then a - b - c + 10 else a - b - c), .int .i64 (if a - b - c < 0 then 1 else 0)] ∧ h' = h) := by
  refine acall_intro (n := 23) (rs := [.tmp 6, .tmp 7]) Tryz.func69 rfl rfl rfl rfl (Nat.le_of_ble_eq_true rfl) ?_
  simp only [initSlots]
  -- region 0  decimals.go:196
  refine awp_rseq [0, 1, 2] (by rfl) fun K hK => ?_
  simp (decide := true) only [aOps_nil, ev, absV, absS, putD, Slots.put, Slots.keep, if_true, if_false, true_and, ↓ap_assign, pop_assign]
  repeat (with_reducible refine And.intro ?_ ?_; · first | trivial | omega | (intro hg; simp only [Bool.and_eq_true, Bool.or_eq_true, Bool.not_eq_true', Bool.and_eq_false_iff, Bool.or_eq_false_iff, Bool.not_eq_false', decide_eq_true_eq, decide_eq_false_iff_not, eqNil] at hg; omega) )
  apply hK; clear hK K
  refine awp_seq ?_
  -- region 1  decimals.go:197
  refine awp_rseq [0, 1, 2, 8] (by rfl) fun K hK => ?_
  simp (decide := true) only [aOps_nil, ev, putD, Slots.put, Slots.get, Slots.keep, if_true, if_false, true_and, ↓ap_move, pop_move, ↓ap_binOp, pop_binOp, isNilC_tmp, cond_false, pBinX_int, pI_sub, ↓ap_assign, pop_assign]
  try simp (disch := omega) only [wrap_i64]
  repeat (with_reducible refine And.intro ?_ ?_; · first | trivial | omega | (intro hg; simp only [Bool.and_eq_true, Bool.or_eq_true, Bool.not_eq_true', Bool.and_eq_false_iff, Bool.or_eq_false_iff, Bool.not_eq_false', decide_eq_true_eq, decide_eq_false_iff_not, eqNil] at hg; omega) )
  apply hK; clear hK K
  -- region 2  decimals.go:197
  refine awp_rseq [0, 1, 2, 8, 15] (by rfl) fun K hK => ?_
  simp (decide := true) only [aOps_nil, ev, absV, absS, putD, Slots.put, Slots.get, Slots.keep, if_true, if_false, true_and, ↓ap_move, pop_move, ↓ap_binOp, pop_binOp, isNilC_int, cond_false, pBinX_int, pI_lss]
  repeat (with_reducible refine And.intro ?_ ?_; · first | trivial | omega | (intro hg; simp only [Bool.and_eq_true, Bool.or_eq_true, Bool.not_eq_true', Bool.and_eq_false_iff, Bool.or_eq_false_iff, Bool.not_eq_false', decide_eq_true_eq, decide_eq_false_iff_not, eqNil] at hg; omega) )
  apply hK; clear hK K
  refine awp_cond (b := _) rfl (fun hb1 => ?_) (fun hb1 => ?_)
  · try simp only [decide_eq_true_eq] at hb1
    -- region 3  decimals.go:198
    refine awp_rseq [6, 7] (by rfl) fun K hK => ?_
    simp (decide := true) only [aOps_nil, ev, absV, absS, putD, Slots.put, Slots.get, Slots.keep, if_true, if_false, true_and, ↓ap_move, pop_move, ↓ap_binOp, pop_binOp, isNilC_int, cond_false, pBinX_int, pI_add, ↓ap_assign, pop_assign]
    try simp (disch := omega) only [wrap_i64]
    repeat (with_reducible refine And.intro ?_ ?_; · first | trivial | omega | (intro hg; simp only [Bool.and_eq_true, Bool.or_eq_true, Bool.not_eq_true', Bool.and_eq_false_iff, Bool.or_eq_false_iff, Bool.not_eq_false', decide_eq_true_eq, decide_eq_false_iff_not, eqNil] at hg; omega) )
    apply hK; clear hK K
    refine awp_ret ?_
    try simp only [thenA_ret]
    refine retA_ret _ (Sub.refl _) (resPre_tmp (resPre_tmp (resPre_nil))) ?_
    simp (decide := true) only [Slots.get, if_true, if_false, and_true, resOf_two]
    rw [if_pos hb1, if_pos hb1]
  · try simp only [decide_eq_false_iff_not] at hb1
    refine awp_skip ?_
    change Awp _ _ _ _ _ _ _
    -- region 4  decimals.go:200
    refine awp_rseq [6, 7] (by rfl) fun K hK => ?_
    simp (decide := true) only [aOps_nil, ev, absV, absS, putD, Slots.put, Slots.get, Slots.keep, if_true, if_false, true_and, ↓ap_move, pop_move, ↓ap_binOp, pop_binOp, isNilC_tmp, cond_false, pBinX_int, pI_sub, ↓ap_assign, pop_assign]
    try simp (disch := omega) only [wrap_i64]
    repeat (with_reducible refine And.intro ?_ ?_; · first | trivial | omega | (intro hg; simp only [Bool.and_eq_true, Bool.or_eq_true, Bool.not_eq_true', Bool.and_eq_false_iff, Bool.or_eq_false_iff, Bool.not_eq_false', decide_eq_true_eq, decide_eq_false_iff_not, eqNil] at hg; omega) )
    apply hK; clear hK K
    refine awp_ret ?_
    try simp only [thenA_ret, inBlockA_ret]
    refine retA_ret _ (Sub.refl _) (resPre_tmp (resPre_tmp (resPre_nil))) ?_
    simp (decide := true) only [Slots.get, if_true, if_false, and_true, resOf_two]
    rw [if_neg hb1, if_neg hb1]


theorem c_itoaSmall (w₀ : World) (h : AHeap) (i : Nat) (hi : i < 100) : ACall Tryz.prog w₀ 40 [.int .i64 i] h (fun v h' => v = .str (decDigits i) ∧ h' = h) := by
  refine acall_of_calls (vals := [.int .i64 i]) (val := .string ⟨⟨decDigits i⟩⟩) Tryz.func40 rfl rfl (fun φ vs hv => VRs_i hv) (fun φ => rfl) fun w => ?_
  refine (Tryz.strconv_Itoa_small i hi w).mono fun e w' ⟨e1, e2⟩ => ⟨e1, ?_⟩
  subst e2; exact Go.RowKit.Below.refl _ _

theorem dvI_nat {s : List UInt8} (hs : s.all dg = true) (i : Nat) (hi : i < s.length) : dvI (s.getD i 0) = (dv (s.getD i 0) : Int) ∧ dv (s.getD i 0) ≤ 9 := by
  have := dg_at hs i hi
  simp only [dvI, dv]
  omega

/-- What holds behind k columns of a sum. -/
def PlusI (x y : List UInt8) (k : Nat) (s : List UInt8) (c : Int) : Prop :=
  s.all dg = true ∧ 0 ≤ c ∧ c ≤ 1 ∧ (natOf s : Int) + c * 10 ^ k = natOf (x.drop (x.length - k)) + natOf (y.drop (y.length - k))

theorem c_plus (w₀ : World) (h : AHeap) (x y : List UInt8) (hx : x.all dg = true) (hy : y.all dg = true) (hxy : x.length = y.length) (hl : x.length ≤ 1073741824) :
    ACall Tryz.prog w₀ 51 [.str x, .str y] h (fun v h' => v = .str (fixS (natOf x + natOf y) (x.length + 1)) ∧ h' = h) := by
  have hcol := c_column w₀ h x y 68 (PlusI x y) hx hy hxy hl ⟨rfl, by omega, by omega, by simp [natOf_nil]⟩ fun k s c hk hs hi => by
    obtain ⟨i1, i2, i3, i4⟩ := hi
    obtain ⟨a1, a2⟩ := dvI_nat hx (x.length - 1 - k) (by omega)
    obtain ⟨b1, b2⟩ := dvI_nat hy (x.length - 1 - k) (by omega)
    refine ⟨_, _, fun h => c_plus1 w₀ h _ _ c (by omega) (by omega) ⟨i2, i3⟩, by omega, by omega, ?_, by omega, by omega, ?_⟩
    · rw [List.all_cons, i1, dch_dg (by omega)]; rfl
    · have ex := natOf_drop x k hk
      have ey := natOf_drop y k (by omega)
      rw [show y.length - 1 - k = x.length - 1 - k by omega] at ey
      rw [natOf_cons, dv_dch (by omega), hs, ex, ey]
      generalize natOf (x.drop (x.length - k)) = X at *
      generalize natOf (y.drop (y.length - k)) = Y at *
      rw [a1, b1] at *
      generalize dv (x.getD (x.length - 1 - k) 0) = A at *
      generalize dv (y.getD (x.length - 1 - k) 0) = B at *
      rw [Int.pow_succ]
      have e1 : ((((A : Int) + B + c) % 10).toNat : Int) = ((A : Int) + B + c) % 10 := by omega
      simp only [Int.natCast_add, Int.natCast_mul, Int.natCast_pow, e1] at *
      have hr : ((A : Int) + B + c) % 10 + 10 * (((A : Int) + B + c) / 10) = A + B + c := by omega
      generalize ((A : Int) + B + c) % 10 = r at *
      generalize ((A : Int) + B + c) / 10 = q at *
      have hT := congrArg (· * ((10 : Nat) : Int) ^ k) hr
      simp only [Int.add_mul, Int.mul_assoc] at hT
      rw [Int.mul_comm (_ ^ k), ← Int.mul_assoc]
      have hc10 : ((10 : Nat) : Int) = 10 := rfl
      simp only [hc10] at *
      generalize (10 : Int) ^ k = T at *
      have hq : q * 10 * T = 10 * (q * T) := by rw [Int.mul_comm q 10, Int.mul_assoc]
      omega
  refine acall_intro (n := 17) (rs := [.tmp 4]) Tryz.func51 rfl rfl rfl rfl (Nat.le_of_ble_eq_true rfl) ?_
  simp only [initSlots]
  -- region 0  decimals.go:189
  refine awp_rseq [0, 1] (by rfl) fun K hK => ?_
  simp (decide := true) only [aOps_nil, ev, absV, absS, putD, Slots.put, Slots.keep, if_true, if_false, true_and, ↓ap_assign, pop_assign]
  repeat (with_reducible refine And.intro ?_ ?_; · first | trivial | omega | (intro hg; simp only [Bool.and_eq_true, Bool.or_eq_true, Bool.not_eq_true', Bool.and_eq_false_iff, Bool.or_eq_false_iff, Bool.not_eq_false', decide_eq_true_eq, decide_eq_false_iff_not, eqNil] at hg; omega) )
  apply hK; clear hK K
  -- region 1  decimals.go:190
  refine awp_rseq [5, 6] (by rfl) fun K hK => ?_
  simp (decide := true) only [ev, putD, Slots.put, Slots.get, if_true, if_false, true_and, ↓ap_move, pop_move]
  repeat (with_reducible refine And.intro ?_ ?_; · first | trivial | omega | (intro hg; simp only [Bool.and_eq_true, Bool.or_eq_true, Bool.not_eq_true', Bool.and_eq_false_iff, Bool.or_eq_false_iff, Bool.not_eq_false', decide_eq_true_eq, decide_eq_false_iff_not, eqNil] at hg; omega) )
  refine aOps_call (by rfl) (by rfl) (hcol) fun x1q2 h1q2 hx1q2 => ?_
  obtain ⟨⟨s, c, hs, ⟨i1, i2, i3, i4⟩, rfl⟩, rfl⟩ := hx1q2
  obtain ⟨C, rfl⟩ : ∃ C : Nat, c = C := ⟨c.toNat, by omega⟩
  simp (decide := true) only [aOps_nil, ev, putD, Slots.put, Slots.get, Slots.keep, if_true, if_false, true_and, ↓ap_move, pop_move, ↓ap_extract, pop_extract, pExt_tuple, List.length_cons, List.length_nil, List.getD_cons_zero, List.getD_cons_succ, ↓ap_assign, pop_assign]
  repeat (with_reducible refine And.intro ?_ ?_; · first | trivial | omega | (intro hg; simp only [Bool.and_eq_true, Bool.or_eq_true, Bool.not_eq_true', Bool.and_eq_false_iff, Bool.or_eq_false_iff, Bool.not_eq_false', decide_eq_true_eq, decide_eq_false_iff_not, eqNil] at hg; omega) )
  apply hK; clear hK K
  -- region 2  decimals.go:191
  refine awp_rseq [4] (by rfl) fun K hK => ?_
  simp (decide := true) only [ev, putD, Slots.put, Slots.get, if_true, if_false, true_and, ↓ap_move, pop_move]
  repeat (with_reducible refine And.intro ?_ ?_; · first | trivial | omega | (intro hg; simp only [Bool.and_eq_true, Bool.or_eq_true, Bool.not_eq_true', Bool.and_eq_false_iff, Bool.or_eq_false_iff, Bool.not_eq_false', decide_eq_true_eq, decide_eq_false_iff_not, eqNil] at hg; omega) )
  refine aOps_callV (V := .str (decDigits C)) (by rfl) (by rfl) (c_itoaSmall w₀ _ C (by omega)) ?_
  simp (decide := true) only [aOps_nil, ev, putD, Slots.put, Slots.get, Slots.keep, if_true, if_false, true_and, ↓ap_move, pop_move, ↓ap_binOp, pop_binOp, isNilC_tmp, cond_false, pBinX_str, pS_add, ↓ap_assign, pop_assign]
  refine And.intro (by rw [decDigits_small (by omega)]; simp; omega) ?_
  apply hK; clear hK K
  refine awp_ret ?_
  try simp only [thenA_ret, inBlockA_ret]
  refine retA_ret _ (Sub.refl _) (resPre_tmp (resPre_nil)) ?_
  simp (decide := true) only [Slots.get, if_true, and_true, resOf_one]
  rw [decDigits_small (by omega)]
  refine congrArg AVal.str (fixS_of ?_ ?_ (by simp [hs]))
  · simp [i1, dch_dg (show C < 10 by omega)]
  · simp only [Nat.sub_self, List.drop_zero, ← hxy] at i4
    rw [List.singleton_append, natOf_cons, dv_dch (by omega), hs]
    have i5 : (C : Int) * 10 ^ x.length + natOf s = natOf x + natOf y := by omega
    exact_mod_cast i5

/-- What holds behind k columns of a difference. -/
def MinusI (x y : List UInt8) (k : Nat) (s : List UInt8) (c : Int) : Prop :=
  s.all dg = true ∧ 0 ≤ c ∧ c ≤ 1 ∧ (natOf s : Int) - c * 10 ^ k = natOf (x.drop (x.length - k)) - natOf (y.drop (y.length - k))

theorem c_minus (w₀ : World) (h : AHeap) (x y : List UInt8) (hx : x.all dg = true) (hy : y.all dg = true) (hxy : x.length = y.length) (hl : x.length ≤ 1073741824) (hle : natOf y ≤ natOf x) :
    ACall Tryz.prog w₀ 52 [.str x, .str y] h (fun v h' => v = .str (fixS (natOf x - natOf y) x.length) ∧ h' = h) := by
  have hcol := c_column w₀ h x y 69 (MinusI x y) hx hy hxy hl ⟨rfl, by omega, by omega, by simp [natOf_nil]⟩ fun k s c hk hs hi => by
    obtain ⟨i1, i2, i3, i4⟩ := hi
    obtain ⟨a1, a2⟩ := dvI_nat hx (x.length - 1 - k) (by omega)
    obtain ⟨b1, b2⟩ := dvI_nat hy (x.length - 1 - k) (by omega)
    refine ⟨_, _, fun h => c_minus1 w₀ h _ _ c (by omega) (by omega) ⟨i2, i3⟩, by split <;> omega, by split <;> omega, ?_, by split <;> omega, by split <;> omega, ?_⟩
    · rw [List.all_cons, i1, dch_dg (by split <;> omega)]; rfl
    · have ex := natOf_drop x k hk
      have ey := natOf_drop y k (by omega)
      rw [show y.length - 1 - k = x.length - 1 - k by omega] at ey
      rw [natOf_cons, dv_dch (by split <;> omega), hs, ex, ey]
      generalize natOf (x.drop (x.length - k)) = X at *
      generalize natOf (y.drop (y.length - k)) = Y at *
      rw [a1, b1] at *
      generalize dv (x.getD (x.length - 1 - k) 0) = A at *
      generalize dv (y.getD (x.length - 1 - k) 0) = B at *
      rw [Int.pow_succ]
      obtain ⟨r, hr⟩ : ∃ r : Int, r = (if (A : Int) - B - c < 0 then (A : Int) - B - c + 10 else (A : Int) - B - c) := ⟨_, rfl⟩
      obtain ⟨q, hq0⟩ : ∃ q : Int, q = (if (A : Int) - B - c < 0 then (1 : Int) else 0) := ⟨_, rfl⟩
      rw [← hr, ← hq0]
      have e0 : 0 ≤ r := by rw [hr]; split <;> omega
      have e1 : (r.toNat : Int) = r := by omega
      simp only [Int.natCast_add, Int.natCast_mul, Int.natCast_pow, e1] at *
      have hrq : r - 10 * q = A - B - c := by rw [hr, hq0]; split <;> omega
      have hT := congrArg (· * ((10 : Nat) : Int) ^ k) hrq
      simp only [Int.sub_mul, Int.mul_assoc] at hT
      rw [Int.mul_comm (_ ^ k), ← Int.mul_assoc]
      have hc10 : ((10 : Nat) : Int) = 10 := rfl
      simp only [hc10] at *
      generalize (10 : Int) ^ k = T at *
      have hq : q * 10 * T = 10 * (q * T) := by rw [Int.mul_comm q 10, Int.mul_assoc]
      omega
  refine acall_intro (n := 14) (rs := [.tmp 4]) Tryz.func52 rfl rfl rfl rfl (Nat.le_of_ble_eq_true rfl) ?_
  simp only [initSlots]
  -- region 0  decimals.go:195
  refine awp_rseq [0, 1] (by rfl) fun K hK => ?_
  simp (decide := true) only [aOps_nil, ev, absV, absS, putD, Slots.put, Slots.keep, if_true, if_false, true_and, ↓ap_assign, pop_assign]
  repeat (with_reducible refine And.intro ?_ ?_; · first | trivial | omega | (intro hg; simp only [Bool.and_eq_true, Bool.or_eq_true, Bool.not_eq_true', Bool.and_eq_false_iff, Bool.or_eq_false_iff, Bool.not_eq_false', decide_eq_true_eq, decide_eq_false_iff_not, eqNil] at hg; omega) )
  apply hK; clear hK K
  -- region 1  decimals.go:196
  refine awp_rseq [5] (by rfl) fun K hK => ?_
  simp (decide := true) only [ev, putD, Slots.put, Slots.get, if_true, if_false, true_and, ↓ap_move, pop_move]
  repeat (with_reducible refine And.intro ?_ ?_; · first | trivial | omega | (intro hg; simp only [Bool.and_eq_true, Bool.or_eq_true, Bool.not_eq_true', Bool.and_eq_false_iff, Bool.or_eq_false_iff, Bool.not_eq_false', decide_eq_true_eq, decide_eq_false_iff_not, eqNil] at hg; omega) )
  refine aOps_call (by rfl) (by rfl) (hcol) fun x1q2 h1q2 hx1q2 => ?_
  obtain ⟨⟨s, c, hs, ⟨i1, i2, i3, i4⟩, rfl⟩, rfl⟩ := hx1q2
  simp (decide := true) only [aOps_nil, ev, putD, Slots.put, Slots.get, Slots.keep, if_true, if_false, true_and, ↓ap_move, pop_move, ↓ap_extract, pop_extract, pExt_tuple, List.length_cons, List.length_nil, List.getD_cons_zero, List.getD_cons_succ, ↓ap_assign, pop_assign]
  repeat (with_reducible refine And.intro ?_ ?_; · first | trivial | omega | (intro hg; simp only [Bool.and_eq_true, Bool.or_eq_true, Bool.not_eq_true', Bool.and_eq_false_iff, Bool.or_eq_false_iff, Bool.not_eq_false', decide_eq_true_eq, decide_eq_false_iff_not, eqNil] at hg; omega) )
  apply hK; clear hK K
  -- region 2  decimals.go:202
  refine awp_rseq [4] (by rfl) fun K hK => ?_
  simp (decide := true) only [aOps_nil, ev, putD, Slots.put, Slots.get, Slots.keep, if_true, if_false, true_and, ↓ap_move, pop_move, ↓ap_assign, pop_assign]
  repeat (with_reducible refine And.intro ?_ ?_; · first | trivial | omega | (intro hg; simp only [Bool.and_eq_true, Bool.or_eq_true, Bool.not_eq_true', Bool.and_eq_false_iff, Bool.or_eq_false_iff, Bool.not_eq_false', decide_eq_true_eq, decide_eq_false_iff_not, eqNil] at hg; omega) )
  apply hK; clear hK K
  refine awp_ret ?_
  try simp only [thenA_ret, inBlockA_ret]
  refine retA_ret _ (Sub.refl _) (resPre_tmp (resPre_nil)) ?_
  simp (decide := true) only [Slots.get, if_true, and_true, resOf_one]
  simp only [Nat.sub_self, List.drop_zero, ← hxy] at i4
  have hlt := natOf_lt s i1
  rw [hs] at hlt
  have hc0 : c = 0 := by
    rcases (show c = 0 ∨ c = 1 by omega) with e | e
    · exact e
    · exfalso
      subst e
      rw [Int.one_mul] at i4
      have hlt' : (natOf s : Int) < 10 ^ x.length := by exact_mod_cast hlt
      omega
  subst hc0
  rw [Int.zero_mul] at i4
  exact congrArg AVal.str (fixS_of i1 (by omega) hs)
end Go.Proofs.YthiiakghjoeikaaGreatDoor

/-
  Contracts: Add, Sub of the package decimals.
  Conditions: none.
-/
namespace Go.Proofs.YthiiakghjoeikaaGreatDoor
open Go.AM
open Go.Proofs
open Go.Dec
open Go.Lib (decDigits)
set_option maxRecDepth 100000

theorem less_natOf : ∀ (xs ys : List UInt8), xs.length = ys.length → xs.all dg = true → ys.all dg = true → Op.bytesLess xs ys = decide (natOf xs < natOf ys)
  | [], [], _, _, _ => by simp [Op.bytesLess]
  | a :: xs, b :: ys, hl, hx, hy => by
    simp only [List.all_cons, Bool.and_eq_true] at hx hy
    have hl' : xs.length = ys.length := by simpa using hl
    have ih := less_natOf xs ys hl' hx.2 hy.2
    have h1 := natOf_lt xs hx.2
    have h2 := natOf_lt ys hy.2
    have ha := (dg_iff a).1 hx.1
    have hb := (dg_iff b).1 hy.1
    rw [hl'] at h1
    simp only [Op.bytesLess, ih, natOf_cons, hl']
    by_cases c1 : a < b
    · have c1' := UInt8.lt_iff_toNat_lt.1 c1
      have hm : (dv a + 1) * 10 ^ ys.length ≤ dv b * 10 ^ ys.length := Nat.mul_le_mul_right _ (by simp only [dv]; omega)
      rw [Nat.add_mul, Nat.one_mul] at hm
      have : dv a * 10 ^ ys.length + natOf xs < dv b * 10 ^ ys.length + natOf ys := by omega
      simp [c1, this]
    · by_cases c2 : a = b
      · subst c2
        simp [c1]
      · have c3 : b.toNat < a.toNat := by
          have e1 : ¬ a.toNat < b.toNat := fun h => c1 (UInt8.lt_iff_toNat_lt.2 h)
          have e2 : a.toNat ≠ b.toNat := fun h => c2 (UInt8.toNat_inj.1 h)
          omega
        have hm : (dv b + 1) * 10 ^ ys.length ≤ dv a * 10 ^ ys.length := Nat.mul_le_mul_right _ (by simp only [dv]; omega)
        rw [Nat.add_mul, Nat.one_mul] at hm
        have : ¬ (dv a * 10 ^ ys.length + natOf xs < dv b * 10 ^ ys.length + natOf ys) := by omega
        simp [c1, c2, this]
  | [], _ :: _, h, _, _ => by simp at h
  | _ :: _, [], h, _, _ => by simp at h

/-- A number's digits at the common scale, as a number. -/
def alV (a b : D) : Nat := natOf a.dig * 10 ^ (alS a b - a.scale).toNat
theorem alS_comm (a b : D) : alS a b = alS b a := by unfold alS; omega
theorem natOf_pad (s : List UInt8) (n : Int) : natOf (padL s n) = natOf s := by rw [padL, natOf_append, natOf_zeros]; omega
theorem natOf_ext (a : D) (s : Int) : natOf (extD a s) = natOf a.dig * 10 ^ (s - a.scale).toNat := by rw [extD, natOf_append, natOf_zeros, List.length_replicate]; omega
theorem pad_all {s : List UInt8} (hs : s.all dg = true) (n : Int) : (padL s n).all dg = true := by rw [padL, all_append, all_zeros, hs]; rfl
theorem ext_all {a : D} (ha : a.dig.all dg = true) (s : Int) : (extD a s).all dg = true := by rw [extD, all_append, all_zeros, ha]; rfl
theorem pad_length {s : List UInt8} {n : Int} (h : (s.length : Int) ≤ n) : (padL s n).length = n.toNat := by simp [padL]; omega

def addE (a b : D) : D × Int :=
  if checkE a = 0 ∧ checkE b = 0 then
    if a.neg = b.neg then normE a.neg (alV a b + alV b a) (alS a b)
    else if alV b a ≤ alV a b then normE a.neg (alV a b - alV b a) (alS a b)
    else normE b.neg (alV b a - alV a b) (alS a b)
  else (noD, 1)

theorem c_Add (w₀ : World) (h : AHeap) (a b : D) (la : a.dig.length ≤ 9223372036854775807) (lb : b.dig.length ≤ 9223372036854775807) :
    ACall Tryz.prog w₀ 24 [decA a, decA b] h (fun v h' => v = .tuple [decA (addE a b).1, .int .i64 (addE a b).2] ∧ h' = h) := by
  refine acall_intro (n := 61) (rs := [.cell 4 27, .tmp 5]) Tryz.func24 rfl rfl rfl rfl (Nat.le_of_ble_eq_true rfl) ?_
  simp only [initSlots]
  -- region 0  decimals.go:206
  refine awp_rseq [2, 3, 4] (by rfl) fun K hK => ?_
  refine aOps_box (by rfl) (by rfl) (by rfl) fun k0q0 hk0q0 => ?_
  skip
  refine aOps_box (by rfl) (by rfl) (by rfl) fun k0q1 hk0q1 => ?_
  have hne := AHeap.ne_of hk0q1
  refine aOps_alloc ze27 (cs := [.bool false, .str [], .int .i64 0]) (by rfl) fun k0q2 hk0q2 => ?_
  have hne2 := AHeap.ne_of hk0q2
  have hne3 := AHeap.ne_of2 hk0q2
  simp (decide := true) only [aOps_nil, ev, absV, absS, putD, Slots.put, Slots.get, Slots.keep, if_true, if_false, true_and, ↓ap_assign, pop_assign, AVal.cells, Nat.zero_add, decA]
  repeat (with_reducible refine And.intro ?_ ?_; · first | trivial | omega | (intro hg; simp only [Bool.and_eq_true, Bool.or_eq_true, Bool.not_eq_true', Bool.and_eq_false_iff, Bool.or_eq_false_iff, Bool.not_eq_false', decide_eq_true_eq, decide_eq_false_iff_not, eqNil] at hg; omega) )
  apply hK; clear hK K
  refine awp_seq ?_
  -- region 1  decimals.go:207
  refine awp_rseq [2, 3, 4, 6] (by rfl) fun K hK => ?_
  simp (decide := true) only [ev, putD, Slots.put, Slots.get, if_true, if_false, true_and, ↓ap_loadL, apL_mk, pLoad_agg ag27 sz27, rd_any, cellsAt, List.getD_cons_zero, List.getD_cons_succ, Nat.zero_add, Nat.reduceAdd, lv_bool, lv_int, lv_str, allLive, Bool.and_true, rd_ne _ _ _ hne, rd_ne _ _ _ hne2, rd_ne _ _ _ hne3]
  repeat (with_reducible refine And.intro ?_ ?_; · first | trivial | omega | (intro hg; simp only [Bool.and_eq_true, Bool.or_eq_true, Bool.not_eq_true', Bool.and_eq_false_iff, Bool.or_eq_false_iff, Bool.not_eq_false', decide_eq_true_eq, decide_eq_false_iff_not, eqNil] at hg; omega) )
  refine aOps_callV (V := .int .i64 (max (checkE a) (checkE b))) (by rfl) (by rfl) (c_both w₀ _ a b la lb) ?_
  simp (decide := true) only [aOps_nil, ev, putD, Slots.put, Slots.get, Slots.keep, if_true, if_false, true_and, ↓ap_assign, pop_assign]
  repeat (with_reducible refine And.intro ?_ ?_; · first | trivial | omega | (intro hg; simp only [Bool.and_eq_true, Bool.or_eq_true, Bool.not_eq_true', Bool.and_eq_false_iff, Bool.or_eq_false_iff, Bool.not_eq_false', decide_eq_true_eq, decide_eq_false_iff_not, eqNil] at hg; omega) )
  apply hK; clear hK K
  -- region 2  decimals.go:207
  refine awp_rseq [2, 3, 4, 6, 14] (by rfl) fun K hK => ?_
  simp (decide := true) only [aOps_nil, ev, absV, absS, putD, Slots.put, Slots.get, Slots.keep, if_true, if_false, true_and, ↓ap_move, pop_move, ↓ap_binOp, pop_binOp, isNilC_int, cond_false, pBinX_int, pI_neq]
  repeat (with_reducible refine And.intro ?_ ?_; · first | trivial | omega | (intro hg; simp only [Bool.and_eq_true, Bool.or_eq_true, Bool.not_eq_true', Bool.and_eq_false_iff, Bool.or_eq_false_iff, Bool.not_eq_false', decide_eq_true_eq, decide_eq_false_iff_not, eqNil] at hg; omega) )
  apply hK; clear hK K
  refine awp_cond (b := _) rfl (fun hb1 => ?_) (fun hb1 => ?_)
  · try simp only [decide_eq_false_iff_not, Bool.not_eq_true'] at hb1
    -- region 3  decimals.go:208
    refine awp_rseq [4, 5] (by rfl) fun K hK => ?_
    simp (decide := true) only [ev, absV, absS, putD, Slots.put, Slots.get, if_true, if_false, true_and, ↓ap_build, ↓pop_buildL, bld27_, evP, List.map_nil, ↓ap_move, pop_move]
    repeat (with_reducible refine And.intro ?_ ?_; · first | trivial | omega | (intro hg; simp only [Bool.and_eq_true, Bool.or_eq_true, Bool.not_eq_true', Bool.and_eq_false_iff, Bool.or_eq_false_iff, Bool.not_eq_false', decide_eq_true_eq, decide_eq_false_iff_not, eqNil] at hg; omega) )
    refine aOps_store (by rfl) (by rfl) (AHeap.set_same _ _ _) sz27 (by rfl) (by rfl) (by first | exact Nat.le_refl _ | decide | (simp; done) | (simp; omega)) (Nat.zero_le _) (by rfl) ?_
    simp only [AHeap.set_set, AVal.cells]
    simp (decide := true) only [aOps_nil, ev, putD, Slots.put, Slots.get, Slots.keep, if_true, if_false, true_and, ↓ap_assign, pop_assign, setAt, List.set_cons_zero, List.set_cons_succ, Nat.zero_add, Nat.reduceAdd]
    repeat (with_reducible refine And.intro ?_ ?_; · first | trivial | omega | (intro hg; simp only [Bool.and_eq_true, Bool.or_eq_true, Bool.not_eq_true', Bool.and_eq_false_iff, Bool.or_eq_false_iff, Bool.not_eq_false', decide_eq_true_eq, decide_eq_false_iff_not, eqNil] at hg; omega) )
    apply hK; clear hK K
    refine awp_ret ?_
    try simp only [thenA_ret]
    refine retA_ret h (((Sub.set hk0q0).trans (Sub.set hk0q1)).trans (Sub.set hk0q2)) (?_) ?_
    · simp (decide := true) only [resPre, resV_tmp, resV_cell, Slots.get, if_true, if_false, and_true, resV_tmp, resV_cell, pLoad_agg ag27 sz27, rd_set, cellsAt, List.getD_cons_zero, List.getD_cons_succ, Nat.zero_add, Nat.reduceAdd, lv_bool, lv_int, lv_str, allLive, Bool.and_true, cellsAt, List.getD_cons_zero, List.getD_cons_succ, Nat.zero_add, Nat.reduceAdd, lv_bool, lv_int, lv_str, allLive, Bool.and_true]
    
    simp (decide := true) only [Slots.get, if_true, if_false, and_true, resOfG_two, resV_tmp, resV_cell, pLoad_agg ag27 sz27, rd_set, cellsAt, List.getD_cons_zero, List.getD_cons_succ, Nat.zero_add, Nat.reduceAdd, lv_bool, lv_int, lv_str, allLive, Bool.and_true, cellsAt, List.getD_cons_zero, List.getD_cons_succ, Nat.zero_add, Nat.reduceAdd, lv_bool, lv_int, lv_str, allLive, Bool.and_true, decA]
    have e1 := checkE_01 a
    have e2 := checkE_01 b
    have e : max (checkE a) (checkE b) = 1 := by omega
    rw [addE, if_neg (by omega), e]
    rfl
  · try simp only [decide_eq_true_eq, Bool.not_eq_false'] at hb1
    have e1 := checkE_01 a
    have e2 := checkE_01 b
    have ca : checkE a = 0 := by omega
    have cb : checkE b = 0 := by omega
    obtain ⟨sa, da, na, _⟩ := Small_of_check ca
    obtain ⟨sb, db, nb, _⟩ := Small_of_check cb
    have hx := pad_all (ext_all da (alS a b)) (alN a b)
    have hy := pad_all (ext_all db (alS a b)) (alN a b)
    have hS : alS a b = max a.scale b.scale := rfl
    have hN : alN a b = max ((extD a (alS a b)).length : Int) (extD b (alS a b)).length := rfl
    have hsA := extD_length a (alS a b)
    have hsB := extD_length b (alS a b)
    have lx := pad_length (s := extD a (alS a b)) (n := alN a b) (by omega)
    have ly := pad_length (s := extD b (alS a b)) (n := alN a b) (by omega)
    have vx : natOf (padL (extD a (alS a b)) (alN a b)) = alV a b := by rw [natOf_pad, natOf_ext, alV]
    have vy : natOf (padL (extD b (alS a b)) (alN a b)) = alV b a := by rw [natOf_pad, natOf_ext, alV, alS_comm b a]
    have hx1 := natOf_lt _ hx
    have hy1 := natOf_lt _ hy
    have ha1 := sa.l
    have ha2 := sa.s0
    have ha3 := sa.s1
    have hb1' := sb.l
    have hb2' := sb.s0
    have hb3' := sb.s1
    rw [vx] at hx1
    rw [vy] at hy1
    refine awp_skip ?_
    change Awp _ _ _ _ _ _ _
    -- region 4  decimals.go:210
    refine awp_rseq [2, 3, 4, 7, 8, 9] (by rfl) fun K hK => ?_
    simp (decide := true) only [ev, putD, Slots.put, Slots.get, if_true, if_false, true_and, ↓ap_loadL, apL_mk, pLoad_agg ag27 sz27, rd_any, cellsAt, List.getD_cons_zero, List.getD_cons_succ, Nat.zero_add, Nat.reduceAdd, lv_bool, lv_int, lv_str, allLive, Bool.and_true, rd_ne _ _ _ hne, rd_ne _ _ _ hne2, rd_ne _ _ _ hne3]
    repeat (with_reducible refine And.intro ?_ ?_; · first | trivial | omega | (intro hg; simp only [Bool.and_eq_true, Bool.or_eq_true, Bool.not_eq_true', Bool.and_eq_false_iff, Bool.or_eq_false_iff, Bool.not_eq_false', decide_eq_true_eq, decide_eq_false_iff_not, eqNil] at hg; omega) )
    refine aOps_callV (V := .tuple [.str (padL (extD a (alS a b)) (alN a b)), .str (padL (extD b (alS a b)) (alN a b)), .int .i64 (alS a b)]) (by rfl) (by rfl) (c_aligned w₀ _ a b sa sb) ?_
    simp (decide := true) only [aOps_nil, ev, putD, Slots.put, Slots.get, Slots.keep, if_true, if_false, true_and, ↓ap_move, pop_move, ↓ap_extract, pop_extract, pExt_tuple, List.length_cons, List.length_nil, List.getD_cons_zero, List.getD_cons_succ, ↓ap_assign, pop_assign, List.getD_cons_zero, List.getD_cons_succ, Nat.zero_add, Nat.reduceAdd]
    repeat (with_reducible refine And.intro ?_ ?_; · first | trivial | omega | (intro hg; simp only [Bool.and_eq_true, Bool.or_eq_true, Bool.not_eq_true', Bool.and_eq_false_iff, Bool.or_eq_false_iff, Bool.not_eq_false', decide_eq_true_eq, decide_eq_false_iff_not, eqNil] at hg; omega) )
    apply hK; clear hK K
    refine awp_seq ?_
    refine awp_block ?_
    -- region 5  decimals.go:212
    refine awp_rseq [2, 3, 4, 7, 8, 9, 24] (by rfl) fun K hK => ?_
    simp (decide := true) only [aOps_nil, ev, putD, Slots.put, Slots.get, Slots.keep, if_true, if_false, true_and, ↓ap_fieldAddr, pop_fieldAddr, fa27_0, ↓ap_loadL, apL_mk, pLoad_one ag4, ↓ap_binOp, pop_binOp, isNilC_tmp, cond_false, pBinX_beq, Tryz.underlying4, ↓ap_assign, pop_assign, rd_any, List.getD_cons_zero, Nat.zero_add, lv_bool, rd_ne _ _ _ hne, rd_ne _ _ _ hne2, rd_ne _ _ _ hne3]
    repeat (with_reducible refine And.intro ?_ ?_; · first | trivial | omega | (intro hg; simp only [Bool.and_eq_true, Bool.or_eq_true, Bool.not_eq_true', Bool.and_eq_false_iff, Bool.or_eq_false_iff, Bool.not_eq_false', decide_eq_true_eq, decide_eq_false_iff_not, eqNil] at hg; omega) )
    apply hK; clear hK K
    refine awp_cond (b := _) rfl (fun hb2 => ?_) (fun hb2 => ?_)
    · try simp only [decide_eq_true_eq, decide_eq_false_iff_not, Bool.not_eq_true', Bool.not_eq_false', Bool.and_eq_true, Bool.and_eq_false_iff, Bool.or_eq_true, Bool.or_eq_false_iff, Bool.true_eq, Bool.false_eq, reduceCtorEq] at hb2
      -- region 6  decimals.go:213
      refine awp_dseq_anyT 9 [4, 5] mixed (by kernel_rfl) (by rfl) fun K hK => ?_
      simp only [List.take_succ_cons, List.take_zero, List.drop_succ_cons, List.drop_zero]
      simp (decide := true) only [ev, putD, Slots.put, Slots.get, if_true, if_false, true_and, ↓vp_fieldAddr, pop_fieldAddr, fa27_0, ↓vp_load, pop_load, pLoad_one ag4, ↓vp_move, pop_move, rd_any, List.getD_cons_zero, Nat.zero_add, lv_bool, rd_ne _ _ _ hne, rd_ne _ _ _ hne3]
      repeat (with_reducible refine And.intro ?_ ?_; · first | trivial | omega | (intro hg; simp only [Bool.and_eq_true, Bool.or_eq_true, Bool.not_eq_true', Bool.and_eq_false_iff, Bool.or_eq_false_iff, Bool.not_eq_false', decide_eq_true_eq, decide_eq_false_iff_not, eqNil] at hg; omega) )
      refine vOps_callV (V := .str (fixS (alV a b + alV b a) ((alN a b).toNat + 1))) (by rfl) (by rfl) ((c_plus w₀ _ _ _ hx hy (by omega) (by omega)).val (by rw [vx, vy, lx])) ?_
      simp (decide := true) only [ev, putD, Slots.put, Slots.get, if_true, if_false, true_and, ↓vp_move, pop_move]
      repeat (with_reducible refine And.intro ?_ ?_; · first | trivial | omega | (intro hg; simp only [Bool.and_eq_true, Bool.or_eq_true, Bool.not_eq_true', Bool.and_eq_false_iff, Bool.or_eq_false_iff, Bool.not_eq_false', decide_eq_true_eq, decide_eq_false_iff_not, eqNil] at hg; omega) )
      refine vOps_callV (V := .tuple [decA (normE a.neg (alV a b + alV b a) (alS a b)).1, .int .i64 (normE a.neg (alV a b + alV b a) (alS a b)).2]) (by rfl) (by rfl) ((c_normal w₀ _ a.neg _ (alS a b) (fixS_all _ _) (by rw [fixS_length]; omega) (by omega) (by omega)).val (by rw [natOf_fixS _ _ (by rw [lx] at hx1; rw [ly] at hy1; rw [Nat.pow_succ]; omega)])) ?_
      simp (decide := true) only [vOps_nil, ev, putD, Slots.put, Slots.get, if_true, if_false, true_and, ↓vp_extract, pop_extract, pExt_tuple, List.length_cons, List.length_nil, List.getD_cons_zero, List.getD_cons_succ, List.getD_cons_zero, List.getD_cons_succ, Nat.zero_add, Nat.reduceAdd, decA]
      repeat (with_reducible refine And.intro ?_ ?_; · first | trivial | omega | (intro hg; simp only [Bool.and_eq_true, Bool.or_eq_true, Bool.not_eq_true', Bool.and_eq_false_iff, Bool.or_eq_false_iff, Bool.not_eq_false', decide_eq_true_eq, decide_eq_false_iff_not, eqNil] at hg; omega) )
      try simp only [vOps_nil, fOps_nil]
      refine aOps_store (by rfl) (by rfl) (AHeap.set_same _ _ _) sz27 (by rfl) (by rfl) (by first | exact Nat.le_refl _ | decide | (simp; done) | (simp; omega)) (Nat.zero_le _) (by rfl) ?_
      simp only [AHeap.set_set, AVal.cells]
      simp (decide := true) only [aOps_nil, ev, putD, Slots.put, Slots.get, Slots.keep, if_true, if_false, true_and, ↓ap_assign, pop_assign, setAt, List.set_cons_zero, List.set_cons_succ, Nat.zero_add, Nat.reduceAdd]
      repeat (with_reducible refine And.intro ?_ ?_; · first | trivial | omega | (intro hg; simp only [Bool.and_eq_true, Bool.or_eq_true, Bool.not_eq_true', Bool.and_eq_false_iff, Bool.or_eq_false_iff, Bool.not_eq_false', decide_eq_true_eq, decide_eq_false_iff_not, eqNil] at hg; omega) )
      apply hK; clear hK K
      refine awp_ret ?_
      try simp only [thenA_ret, inBlockA_ret]
      refine retA_ret h (((Sub.set hk0q0).trans (Sub.set hk0q1)).trans (Sub.set hk0q2)) (?_) ?_
      · simp (decide := true) only [resPre, resV_tmp, resV_cell, Slots.get, if_true, if_false, and_true, resV_tmp, resV_cell, pLoad_agg ag27 sz27, rd_set, cellsAt, List.getD_cons_zero, List.getD_cons_succ, Nat.zero_add, Nat.reduceAdd, lv_bool, lv_int, lv_str, allLive, Bool.and_true, cellsAt, List.getD_cons_zero, List.getD_cons_succ, Nat.zero_add, Nat.reduceAdd, lv_bool, lv_int, lv_str, allLive, Bool.and_true]
      
      simp (decide := true) only [Slots.get, if_true, if_false, and_true, resOfG_two, resV_tmp, resV_cell, pLoad_agg ag27 sz27, rd_set, cellsAt, List.getD_cons_zero, List.getD_cons_succ, Nat.zero_add, Nat.reduceAdd, lv_bool, lv_int, lv_str, allLive, Bool.and_true, cellsAt, List.getD_cons_zero, List.getD_cons_succ, Nat.zero_add, Nat.reduceAdd, lv_bool, lv_int, lv_str, allLive, Bool.and_true, decA]
      rw [addE, if_pos ⟨ca, cb⟩, if_pos (by simpa using hb2)]
    · try simp only [decide_eq_true_eq, decide_eq_false_iff_not, Bool.not_eq_true', Bool.not_eq_false', Bool.and_eq_true, Bool.and_eq_false_iff, Bool.or_eq_true, Bool.or_eq_false_iff, Bool.true_eq, Bool.false_eq, reduceCtorEq] at hb2
      -- region 7  decimals.go:214
      refine awp_rseq [2, 3, 4, 7, 8, 9, 39] (by rfl) fun K hK => ?_
      simp (decide := true) only [aOps_nil, ev, putD, Slots.put, Slots.get, Slots.keep, if_true, if_false, true_and, ↓ap_move, pop_move, ↓ap_binOp, pop_binOp, isNilC_tmp, cond_false, pBinX_str, pS_geq, ↓ap_assign, pop_assign]
      repeat (with_reducible refine And.intro ?_ ?_; · first | trivial | omega | (intro hg; simp only [Bool.and_eq_true, Bool.or_eq_true, Bool.not_eq_true', Bool.and_eq_false_iff, Bool.or_eq_false_iff, Bool.not_eq_false', decide_eq_true_eq, decide_eq_false_iff_not, eqNil] at hg; omega) )
      apply hK; clear hK K
      refine awp_cond (b := _) rfl (fun hb3 => ?_) (fun hb3 => ?_)
      · try simp only [Bool.not_eq_true'] at hb3
        have hle : alV b a ≤ alV a b := by
          rw [less_natOf _ _ (by omega) hx hy, vx, vy] at hb3
          simpa using hb3
        -- region 8  decimals.go:215
        refine awp_dseq_anyT 9 [4, 5] mixed (by kernel_rfl) (by rfl) fun K hK => ?_
        simp only [List.take_succ_cons, List.take_zero, List.drop_succ_cons, List.drop_zero]
        simp (decide := true) only [ev, putD, Slots.put, Slots.get, if_true, if_false, true_and, ↓vp_fieldAddr, pop_fieldAddr, fa27_0, ↓vp_load, pop_load, pLoad_one ag4, ↓vp_move, pop_move, rd_any, List.getD_cons_zero, Nat.zero_add, lv_bool, rd_ne _ _ _ hne, rd_ne _ _ _ hne3]
        repeat (with_reducible refine And.intro ?_ ?_; · first | trivial | omega | (intro hg; simp only [Bool.and_eq_true, Bool.or_eq_true, Bool.not_eq_true', Bool.and_eq_false_iff, Bool.or_eq_false_iff, Bool.not_eq_false', decide_eq_true_eq, decide_eq_false_iff_not, eqNil] at hg; omega) )
        refine vOps_callV (V := .str (fixS (alV a b - alV b a) (alN a b).toNat)) (by rfl) (by rfl) ((c_minus w₀ _ _ _ hx hy (by omega) (by omega) (by rw [vx, vy]; exact hle)).val (by rw [vx, vy, lx])) ?_
        simp (decide := true) only [ev, putD, Slots.put, Slots.get, if_true, if_false, true_and, ↓vp_move, pop_move]
        repeat (with_reducible refine And.intro ?_ ?_; · first | trivial | omega | (intro hg; simp only [Bool.and_eq_true, Bool.or_eq_true, Bool.not_eq_true', Bool.and_eq_false_iff, Bool.or_eq_false_iff, Bool.not_eq_false', decide_eq_true_eq, decide_eq_false_iff_not, eqNil] at hg; omega) )
        refine vOps_callV (V := .tuple [decA (normE a.neg (alV a b - alV b a) (alS a b)).1, .int .i64 (normE a.neg (alV a b - alV b a) (alS a b)).2]) (by rfl) (by rfl) ((c_normal w₀ _ a.neg _ (alS a b) (fixS_all _ _) (by rw [fixS_length]; omega) (by omega) (by omega)).val (by rw [natOf_fixS _ _ (by rw [lx] at hx1; rw [ly] at hy1; omega)])) ?_
        simp (decide := true) only [vOps_nil, ev, putD, Slots.put, Slots.get, if_true, if_false, true_and, ↓vp_extract, pop_extract, pExt_tuple, List.length_cons, List.length_nil, List.getD_cons_zero, List.getD_cons_succ, List.getD_cons_zero, List.getD_cons_succ, Nat.zero_add, Nat.reduceAdd, decA]
        repeat (with_reducible refine And.intro ?_ ?_; · first | trivial | omega | (intro hg; simp only [Bool.and_eq_true, Bool.or_eq_true, Bool.not_eq_true', Bool.and_eq_false_iff, Bool.or_eq_false_iff, Bool.not_eq_false', decide_eq_true_eq, decide_eq_false_iff_not, eqNil] at hg; omega) )
        try simp only [vOps_nil, fOps_nil]
        refine aOps_store (by rfl) (by rfl) (AHeap.set_same _ _ _) sz27 (by rfl) (by rfl) (by first | exact Nat.le_refl _ | decide | (simp; done) | (simp; omega)) (Nat.zero_le _) (by rfl) ?_
        simp only [AHeap.set_set, AVal.cells]
        simp (decide := true) only [aOps_nil, ev, putD, Slots.put, Slots.get, Slots.keep, if_true, if_false, true_and, ↓ap_assign, pop_assign, setAt, List.set_cons_zero, List.set_cons_succ, Nat.zero_add, Nat.reduceAdd]
        repeat (with_reducible refine And.intro ?_ ?_; · first | trivial | omega | (intro hg; simp only [Bool.and_eq_true, Bool.or_eq_true, Bool.not_eq_true', Bool.and_eq_false_iff, Bool.or_eq_false_iff, Bool.not_eq_false', decide_eq_true_eq, decide_eq_false_iff_not, eqNil] at hg; omega) )
        apply hK; clear hK K
        refine awp_ret ?_
        try simp only [thenA_ret, inBlockA_ret]
        refine retA_ret h (((Sub.set hk0q0).trans (Sub.set hk0q1)).trans (Sub.set hk0q2)) (?_) ?_
        · simp (decide := true) only [resPre, resV_tmp, resV_cell, Slots.get, if_true, if_false, and_true, resV_tmp, resV_cell, pLoad_agg ag27 sz27, rd_set, cellsAt, List.getD_cons_zero, List.getD_cons_succ, Nat.zero_add, Nat.reduceAdd, lv_bool, lv_int, lv_str, allLive, Bool.and_true, cellsAt, List.getD_cons_zero, List.getD_cons_succ, Nat.zero_add, Nat.reduceAdd, lv_bool, lv_int, lv_str, allLive, Bool.and_true]
        
        simp (decide := true) only [Slots.get, if_true, if_false, and_true, resOfG_two, resV_tmp, resV_cell, pLoad_agg ag27 sz27, rd_set, cellsAt, List.getD_cons_zero, List.getD_cons_succ, Nat.zero_add, Nat.reduceAdd, lv_bool, lv_int, lv_str, allLive, Bool.and_true, cellsAt, List.getD_cons_zero, List.getD_cons_succ, Nat.zero_add, Nat.reduceAdd, lv_bool, lv_int, lv_str, allLive, Bool.and_true, decA]
        rw [addE, if_pos ⟨ca, cb⟩, if_neg (by simpa using hb2), if_pos hle]
      · try simp only [Bool.not_eq_false'] at hb3
        have hlt : alV a b < alV b a := by
          rw [less_natOf _ _ (by omega) hx hy, vx, vy] at hb3
          simpa using hb3
        refine awp_skip ?_
        change Awp _ _ _ _ _ _ _
        -- region 9  decimals.go:217
        refine awp_dseq_anyT 9 [4, 5] mixed (by kernel_rfl) (by rfl) fun K hK => ?_
        simp only [List.take_succ_cons, List.take_zero, List.drop_succ_cons, List.drop_zero]
        simp (decide := true) only [ev, putD, Slots.put, Slots.get, if_true, if_false, true_and, ↓vp_fieldAddr, pop_fieldAddr, fa27_0, ↓vp_load, pop_load, pLoad_one ag4, ↓vp_move, pop_move, rd_any, List.getD_cons_zero, Nat.zero_add, lv_bool, rd_ne _ _ _ hne2]
        repeat (with_reducible refine And.intro ?_ ?_; · first | trivial | omega | (intro hg; simp only [Bool.and_eq_true, Bool.or_eq_true, Bool.not_eq_true', Bool.and_eq_false_iff, Bool.or_eq_false_iff, Bool.not_eq_false', decide_eq_true_eq, decide_eq_false_iff_not, eqNil] at hg; omega) )
        refine vOps_callV (V := .str (fixS (alV b a - alV a b) (alN a b).toNat)) (by rfl) (by rfl) ((c_minus w₀ _ _ _ hy hx (by omega) (by omega) (by rw [vx, vy]; omega)).val (by rw [vx, vy, ly])) ?_
        simp (decide := true) only [ev, putD, Slots.put, Slots.get, if_true, if_false, true_and, ↓vp_move, pop_move]
        repeat (with_reducible refine And.intro ?_ ?_; · first | trivial | omega | (intro hg; simp only [Bool.and_eq_true, Bool.or_eq_true, Bool.not_eq_true', Bool.and_eq_false_iff, Bool.or_eq_false_iff, Bool.not_eq_false', decide_eq_true_eq, decide_eq_false_iff_not, eqNil] at hg; omega) )
        refine vOps_callV (V := .tuple [decA (normE b.neg (alV b a - alV a b) (alS a b)).1, .int .i64 (normE b.neg (alV b a - alV a b) (alS a b)).2]) (by rfl) (by rfl) ((c_normal w₀ _ b.neg _ (alS a b) (fixS_all _ _) (by rw [fixS_length]; omega) (by omega) (by omega)).val (by rw [natOf_fixS _ _ (by rw [lx] at hx1; rw [ly] at hy1; omega)])) ?_
        simp (decide := true) only [vOps_nil, ev, putD, Slots.put, Slots.get, if_true, if_false, true_and, ↓vp_extract, pop_extract, pExt_tuple, List.length_cons, List.length_nil, List.getD_cons_zero, List.getD_cons_succ, List.getD_cons_zero, List.getD_cons_succ, Nat.zero_add, Nat.reduceAdd, decA]
        repeat (with_reducible refine And.intro ?_ ?_; · first | trivial | omega | (intro hg; simp only [Bool.and_eq_true, Bool.or_eq_true, Bool.not_eq_true', Bool.and_eq_false_iff, Bool.or_eq_false_iff, Bool.not_eq_false', decide_eq_true_eq, decide_eq_false_iff_not, eqNil] at hg; omega) )
        try simp only [vOps_nil, fOps_nil]
        refine aOps_store (by rfl) (by rfl) (AHeap.set_same _ _ _) sz27 (by rfl) (by rfl) (by first | exact Nat.le_refl _ | decide | (simp; done) | (simp; omega)) (Nat.zero_le _) (by rfl) ?_
        simp only [AHeap.set_set, AVal.cells]
        simp (decide := true) only [aOps_nil, ev, putD, Slots.put, Slots.get, Slots.keep, if_true, if_false, true_and, ↓ap_assign, pop_assign, setAt, List.set_cons_zero, List.set_cons_succ, Nat.zero_add, Nat.reduceAdd]
        repeat (with_reducible refine And.intro ?_ ?_; · first | trivial | omega | (intro hg; simp only [Bool.and_eq_true, Bool.or_eq_true, Bool.not_eq_true', Bool.and_eq_false_iff, Bool.or_eq_false_iff, Bool.not_eq_false', decide_eq_true_eq, decide_eq_false_iff_not, eqNil] at hg; omega) )
        apply hK; clear hK K
        refine awp_ret ?_
        try simp only [thenA_ret, inBlockA_ret]
        refine retA_ret h (((Sub.set hk0q0).trans (Sub.set hk0q1)).trans (Sub.set hk0q2)) (?_) ?_
        · simp (decide := true) only [resPre, resV_tmp, resV_cell, Slots.get, if_true, if_false, and_true, resV_tmp, resV_cell, pLoad_agg ag27 sz27, rd_set, cellsAt, List.getD_cons_zero, List.getD_cons_succ, Nat.zero_add, Nat.reduceAdd, lv_bool, lv_int, lv_str, allLive, Bool.and_true, cellsAt, List.getD_cons_zero, List.getD_cons_succ, Nat.zero_add, Nat.reduceAdd, lv_bool, lv_int, lv_str, allLive, Bool.and_true]
        
        simp (decide := true) only [Slots.get, if_true, if_false, and_true, resOfG_two, resV_tmp, resV_cell, pLoad_agg ag27 sz27, rd_set, cellsAt, List.getD_cons_zero, List.getD_cons_succ, Nat.zero_add, Nat.reduceAdd, lv_bool, lv_int, lv_str, allLive, Bool.and_true, cellsAt, List.getD_cons_zero, List.getD_cons_succ, Nat.zero_add, Nat.reduceAdd, lv_bool, lv_int, lv_str, allLive, Bool.and_true, decA]
        rw [addE, if_pos ⟨ca, cb⟩, if_neg (by simpa using hb2), if_neg (by omega)]

def subE (a b : D) : D × Int := if checkE a = 0 ∧ checkE b = 0 then addE a (otherD b) else (noD, 1)
theorem c_Sub (w₀ : World) (h : AHeap) (a b : D) (la : a.dig.length ≤ 9223372036854775807) (lb : b.dig.length ≤ 9223372036854775807) :
    ACall Tryz.prog w₀ 34 [decA a, decA b] h (fun v h' => v = .tuple [decA (subE a b).1, .int .i64 (subE a b).2] ∧ h' = h) := by
  refine acall_intro (n := 20) (rs := [.cell 4 27, .tmp 5]) Tryz.func34 rfl rfl rfl rfl (Nat.le_of_ble_eq_true rfl) ?_
  simp only [initSlots]
  -- region 0  decimals.go:221
  refine awp_rseq [2, 3, 4] (by rfl) fun K hK => ?_
  refine aOps_box (by rfl) (by rfl) (by rfl) fun k0q0 hk0q0 => ?_
  skip
  refine aOps_box (by rfl) (by rfl) (by rfl) fun k0q1 hk0q1 => ?_
  have hne := AHeap.ne_of hk0q1
  refine aOps_alloc ze27 (cs := [.bool false, .str [], .int .i64 0]) (by rfl) fun k0q2 hk0q2 => ?_
  have hne2 := AHeap.ne_of hk0q2
  have hne3 := AHeap.ne_of2 hk0q2
  simp (decide := true) only [aOps_nil, ev, absV, absS, putD, Slots.put, Slots.get, Slots.keep, if_true, if_false, true_and, ↓ap_assign, pop_assign, AVal.cells, Nat.zero_add, decA]
  repeat (with_reducible refine And.intro ?_ ?_; · first | trivial | omega | (intro hg; simp only [Bool.and_eq_true, Bool.or_eq_true, Bool.not_eq_true', Bool.and_eq_false_iff, Bool.or_eq_false_iff, Bool.not_eq_false', decide_eq_true_eq, decide_eq_false_iff_not, eqNil] at hg; omega) )
  apply hK; clear hK K
  refine awp_seq ?_
  -- region 1  decimals.go:222
  refine awp_rseq [2, 3, 4, 6] (by rfl) fun K hK => ?_
  simp (decide := true) only [ev, putD, Slots.put, Slots.get, if_true, if_false, true_and, ↓ap_loadL, apL_mk, pLoad_agg ag27 sz27, rd_any, cellsAt, List.getD_cons_zero, List.getD_cons_succ, Nat.zero_add, Nat.reduceAdd, lv_bool, lv_int, lv_str, allLive, Bool.and_true, rd_ne _ _ _ hne, rd_ne _ _ _ hne2, rd_ne _ _ _ hne3]
  repeat (with_reducible refine And.intro ?_ ?_; · first | trivial | omega | (intro hg; simp only [Bool.and_eq_true, Bool.or_eq_true, Bool.not_eq_true', Bool.and_eq_false_iff, Bool.or_eq_false_iff, Bool.not_eq_false', decide_eq_true_eq, decide_eq_false_iff_not, eqNil] at hg; omega) )
  refine aOps_callV (V := .int .i64 (max (checkE a) (checkE b))) (by rfl) (by rfl) (c_both w₀ _ a b la lb) ?_
  simp (decide := true) only [aOps_nil, ev, putD, Slots.put, Slots.get, Slots.keep, if_true, if_false, true_and, ↓ap_assign, pop_assign]
  repeat (with_reducible refine And.intro ?_ ?_; · first | trivial | omega | (intro hg; simp only [Bool.and_eq_true, Bool.or_eq_true, Bool.not_eq_true', Bool.and_eq_false_iff, Bool.or_eq_false_iff, Bool.not_eq_false', decide_eq_true_eq, decide_eq_false_iff_not, eqNil] at hg; omega) )
  apply hK; clear hK K
  -- region 2  decimals.go:222
  refine awp_rseq [2, 3, 4, 6, 11] (by rfl) fun K hK => ?_
  simp (decide := true) only [aOps_nil, ev, absV, absS, putD, Slots.put, Slots.get, Slots.keep, if_true, if_false, true_and, ↓ap_move, pop_move, ↓ap_binOp, pop_binOp, isNilC_int, cond_false, pBinX_int, pI_neq]
  repeat (with_reducible refine And.intro ?_ ?_; · first | trivial | omega | (intro hg; simp only [Bool.and_eq_true, Bool.or_eq_true, Bool.not_eq_true', Bool.and_eq_false_iff, Bool.or_eq_false_iff, Bool.not_eq_false', decide_eq_true_eq, decide_eq_false_iff_not, eqNil] at hg; omega) )
  apply hK; clear hK K
  refine awp_cond (b := _) rfl (fun hb1 => ?_) (fun hb1 => ?_)
  · try simp only [decide_eq_false_iff_not, Bool.not_eq_true'] at hb1
    -- region 3  decimals.go:223
    refine awp_rseq [4, 5] (by rfl) fun K hK => ?_
    simp (decide := true) only [ev, absV, absS, putD, Slots.put, Slots.get, if_true, if_false, true_and, ↓ap_build, ↓pop_buildL, bld27_, evP, List.map_nil, ↓ap_move, pop_move]
    repeat (with_reducible refine And.intro ?_ ?_; · first | trivial | omega | (intro hg; simp only [Bool.and_eq_true, Bool.or_eq_true, Bool.not_eq_true', Bool.and_eq_false_iff, Bool.or_eq_false_iff, Bool.not_eq_false', decide_eq_true_eq, decide_eq_false_iff_not, eqNil] at hg; omega) )
    refine aOps_store (by rfl) (by rfl) (AHeap.set_same _ _ _) sz27 (by rfl) (by rfl) (by first | exact Nat.le_refl _ | decide | (simp; done) | (simp; omega)) (Nat.zero_le _) (by rfl) ?_
    simp only [AHeap.set_set, AVal.cells]
    simp (decide := true) only [aOps_nil, ev, putD, Slots.put, Slots.get, Slots.keep, if_true, if_false, true_and, ↓ap_assign, pop_assign, setAt, List.set_cons_zero, List.set_cons_succ, Nat.zero_add, Nat.reduceAdd]
    repeat (with_reducible refine And.intro ?_ ?_; · first | trivial | omega | (intro hg; simp only [Bool.and_eq_true, Bool.or_eq_true, Bool.not_eq_true', Bool.and_eq_false_iff, Bool.or_eq_false_iff, Bool.not_eq_false', decide_eq_true_eq, decide_eq_false_iff_not, eqNil] at hg; omega) )
    apply hK; clear hK K
    refine awp_ret ?_
    try simp only [thenA_ret]
    refine retA_ret h (((Sub.set hk0q0).trans (Sub.set hk0q1)).trans (Sub.set hk0q2)) (?_) ?_
    · simp (decide := true) only [resPre, resV_tmp, resV_cell, Slots.get, if_true, if_false, and_true, resV_tmp, resV_cell, pLoad_agg ag27 sz27, rd_set, cellsAt, List.getD_cons_zero, List.getD_cons_succ, Nat.zero_add, Nat.reduceAdd, lv_bool, lv_int, lv_str, allLive, Bool.and_true, cellsAt, List.getD_cons_zero, List.getD_cons_succ, Nat.zero_add, Nat.reduceAdd, lv_bool, lv_int, lv_str, allLive, Bool.and_true]
    
    simp (decide := true) only [Slots.get, if_true, if_false, and_true, resOfG_two, resV_tmp, resV_cell, pLoad_agg ag27 sz27, rd_set, cellsAt, List.getD_cons_zero, List.getD_cons_succ, Nat.zero_add, Nat.reduceAdd, lv_bool, lv_int, lv_str, allLive, Bool.and_true, cellsAt, List.getD_cons_zero, List.getD_cons_succ, Nat.zero_add, Nat.reduceAdd, lv_bool, lv_int, lv_str, allLive, Bool.and_true, decA]
    have e1 := checkE_01 a
    have e2 := checkE_01 b
    have e : max (checkE a) (checkE b) = 1 := by omega
    rw [subE, if_neg (by omega), e]
    rfl
  · try simp only [decide_eq_true_eq, Bool.not_eq_false'] at hb1
    refine awp_skip ?_
    change Awp _ _ _ _ _ _ _
    -- region 4  decimals.go:225
    refine awp_dseq_anyT 6 [4, 5] mixed (by kernel_rfl) (by rfl) fun K hK => ?_
    simp only [List.take_succ_cons, List.take_zero, List.drop_succ_cons, List.drop_zero]
    simp (decide := true) only [ev, putD, Slots.put, Slots.get, if_true, if_false, true_and, ↓vp_load, pop_load, pLoad_agg ag27 sz27, rd_any, cellsAt, List.getD_cons_zero, List.getD_cons_succ, Nat.zero_add, Nat.reduceAdd, lv_bool, lv_int, lv_str, allLive, Bool.and_true, rd_ne _ _ _ hne, rd_ne _ _ _ hne2, rd_ne _ _ _ hne3]
    repeat (with_reducible refine And.intro ?_ ?_; · first | trivial | omega | (intro hg; simp only [Bool.and_eq_true, Bool.or_eq_true, Bool.not_eq_true', Bool.and_eq_false_iff, Bool.or_eq_false_iff, Bool.not_eq_false', decide_eq_true_eq, decide_eq_false_iff_not, eqNil] at hg; omega) )
    refine vOps_callV (V := decA (otherD b)) (by rfl) (by rfl) (c_other w₀ _ b) ?_
    refine vOps_callV (V := .tuple [decA (addE a (otherD b)).1, .int .i64 (addE a (otherD b)).2]) (by rfl) (by rfl) (c_Add w₀ _ a (otherD b) la lb) ?_
    simp (decide := true) only [vOps_nil, ev, putD, Slots.put, Slots.get, if_true, if_false, true_and, ↓vp_extract, pop_extract, pExt_tuple, List.length_cons, List.length_nil, List.getD_cons_zero, List.getD_cons_succ, List.getD_cons_zero, List.getD_cons_succ, Nat.zero_add, Nat.reduceAdd, decA]
    repeat (with_reducible refine And.intro ?_ ?_; · first | trivial | omega | (intro hg; simp only [Bool.and_eq_true, Bool.or_eq_true, Bool.not_eq_true', Bool.and_eq_false_iff, Bool.or_eq_false_iff, Bool.not_eq_false', decide_eq_true_eq, decide_eq_false_iff_not, eqNil] at hg; omega) )
    try simp only [vOps_nil, fOps_nil]
    refine aOps_store (by rfl) (by rfl) (AHeap.set_same _ _ _) sz27 (by rfl) (by rfl) (by first | exact Nat.le_refl _ | decide | (simp; done) | (simp; omega)) (Nat.zero_le _) (by rfl) ?_
    simp only [AHeap.set_set, AVal.cells]
    simp (decide := true) only [aOps_nil, ev, putD, Slots.put, Slots.get, Slots.keep, if_true, if_false, true_and, ↓ap_assign, pop_assign, setAt, List.set_cons_zero, List.set_cons_succ, Nat.zero_add, Nat.reduceAdd]
    repeat (with_reducible refine And.intro ?_ ?_; · first | trivial | omega | (intro hg; simp only [Bool.and_eq_true, Bool.or_eq_true, Bool.not_eq_true', Bool.and_eq_false_iff, Bool.or_eq_false_iff, Bool.not_eq_false', decide_eq_true_eq, decide_eq_false_iff_not, eqNil] at hg; omega) )
    apply hK; clear hK K
    refine awp_ret ?_
    try simp only [thenA_ret, inBlockA_ret]
    refine retA_ret h (((Sub.set hk0q0).trans (Sub.set hk0q1)).trans (Sub.set hk0q2)) (?_) ?_
    · simp (decide := true) only [resPre, resV_tmp, resV_cell, Slots.get, if_true, if_false, and_true, resV_tmp, resV_cell, pLoad_agg ag27 sz27, rd_set, cellsAt, List.getD_cons_zero, List.getD_cons_succ, Nat.zero_add, Nat.reduceAdd, lv_bool, lv_int, lv_str, allLive, Bool.and_true, cellsAt, List.getD_cons_zero, List.getD_cons_succ, Nat.zero_add, Nat.reduceAdd, lv_bool, lv_int, lv_str, allLive, Bool.and_true]
    
    simp (decide := true) only [Slots.get, if_true, if_false, and_true, resOfG_two, resV_tmp, resV_cell, pLoad_agg ag27 sz27, rd_set, cellsAt, List.getD_cons_zero, List.getD_cons_succ, Nat.zero_add, Nat.reduceAdd, lv_bool, lv_int, lv_str, allLive, Bool.and_true, cellsAt, List.getD_cons_zero, List.getD_cons_succ, Nat.zero_add, Nat.reduceAdd, lv_bool, lv_int, lv_str, allLive, Bool.and_true, decA]
    have e1 := checkE_01 a
    have e2 := checkE_01 b
    rw [subE, if_pos (by omega)]
end Go.Proofs.YthiiakghjoeikaaGreatDoor

/-
  Contract: Cut of the package decimals.
  Conditions: none.
-/
namespace Go.Proofs.YthiiakghjoeikaaGreatDoor
open Go.AM
open Go.Proofs
open Go.Dec
open Go.Lib (decDigits)
set_option maxRecDepth 100000

theorem trimB_nil (s : List UInt8) (c : UInt8) : decide (Go.Lib.trimB s c = []) = s.all (· == c) := by
  unfold Go.Lib.trimB Go.Lib.trimLeftB Go.Lib.trimRightB
  rw [Bool.eq_iff_iff, decide_eq_true_eq, dropWhile_nil, List.all_eq_true]
  constructor
  · intro h b hb
    by_cases hd : (b == c) = true
    · exact hd
    · have hm : b ∈ s.reverse.dropWhile (· == c) := by
        have := List.takeWhile_append_dropWhile (p := (· == c)) (l := s.reverse)
        have hb' : b ∈ s.reverse := by simpa using hb
        rw [← this, List.mem_append] at hb'
        rcases hb' with h1 | h1
        · exact absurd (takeWhile_all (· == c) _ _ h1) hd
        · exact h1
      exact h b (by simpa using hm)
  · intro h b hb
    refine h b ?_
    have : b ∈ s.reverse.dropWhile (· == c) := by simpa using hb
    have := (List.dropWhile_sublist (p := (· == c)) (l := s.reverse)).mem this
    simpa using this
theorem trim_zero (s : List UInt8) (hs : s.all dg = true) : decide (Go.Lib.trimB s 48 = []) = decide (natOf s = 0) := by
  rw [trimB_nil, Bool.eq_iff_iff, List.all_eq_true, decide_eq_true_eq, natOf_zero_iff s hs]
  simp

def cutE (d : D) (scale : Int) : D × Bool × Int :=
  if checkE d = 0 then
    if d.scale ≤ scale then (d, true, 0)
    else ((normE d.neg (natOf d.dig / 10 ^ (d.scale - scale).toNat * 10 ^ (d.scale - scale).toNat) d.scale).1, decide (natOf d.dig % 10 ^ (d.scale - scale).toNat = 0),
      (normE d.neg (natOf d.dig / 10 ^ (d.scale - scale).toNat * 10 ^ (d.scale - scale).toNat) d.scale).2)
  else (noD, false, 1)

theorem cut_min (s : List UInt8) (hs : s.all dg = true) (k : Nat) : natOf s / 10 ^ (min s.length k) * 10 ^ (min s.length k) = natOf s / 10 ^ k * 10 ^ k ∧ natOf s % 10 ^ (min s.length k) = natOf s % 10 ^ k := by
  rcases Nat.le_total k s.length with c | c
  · rw [Nat.min_eq_right c]; exact ⟨rfl, rfl⟩
  · rw [Nat.min_eq_left c]
    have h1 := natOf_lt s hs
    have h2 : 10 ^ s.length ≤ 10 ^ k := Nat.pow_le_pow_right (by omega) c
    rw [Nat.div_eq_of_lt h1, Nat.div_eq_of_lt (by omega), Nat.mod_eq_of_lt h1, Nat.mod_eq_of_lt (by omega)]
    simp

theorem c_Cut (w₀ : World) (h : AHeap) (d : D) (scale : Int) (hl : d.dig.length ≤ 9223372036854775807) (h0 : -9223372036854775808 ≤ scale) (h1 : scale ≤ 9223372036854775807) :
    ACall Tryz.prog w₀ 32 [decA d, .int .i64 scale] h (fun v h' => v = .tuple [decA (cutE d scale).1, .bool (cutE d scale).2.1, .int .i64 (cutE d scale).2.2] ∧ h' = h) := by
  refine acall_intro (n := 66) (rs := [.cell 4 27, .tmp 5, .tmp 6]) Tryz.func32 rfl rfl rfl rfl (Nat.le_of_ble_eq_true rfl) ?_
  simp only [initSlots]
  -- region 0  decimals.go:309
  refine awp_rseq [1, 2, 4] (by rfl) fun K hK => ?_
  refine aOps_box (by rfl) (by rfl) (by rfl) fun k0q0 hk0q0 => ?_
  skip
  refine aOps_alloc ze27 (cs := [.bool false, .str [], .int .i64 0]) (by rfl) fun k0q1 hk0q1 => ?_
  have hne := AHeap.ne_of hk0q1
  simp (decide := true) only [aOps_nil, ev, absV, absS, putD, Slots.put, Slots.get, Slots.keep, if_true, if_false, true_and, ↓ap_assign, pop_assign, AVal.cells, Nat.zero_add, decA]
  repeat (with_reducible refine And.intro ?_ ?_; · first | trivial | omega | (intro hg; simp only [Bool.and_eq_true, Bool.or_eq_true, Bool.not_eq_true', Bool.and_eq_false_iff, Bool.or_eq_false_iff, Bool.not_eq_false', decide_eq_true_eq, decide_eq_false_iff_not, eqNil] at hg; omega) )
  apply hK; clear hK K
  refine awp_seq ?_
  -- region 1  decimals.go:310
  refine awp_rseq [1, 2, 4, 7] (by rfl) fun K hK => ?_
  simp (decide := true) only [ev, putD, Slots.put, Slots.get, if_true, if_false, true_and, ↓ap_loadL, apL_mk, pLoad_agg ag27 sz27, rd_any, cellsAt, List.getD_cons_zero, List.getD_cons_succ, Nat.zero_add, Nat.reduceAdd, lv_bool, lv_int, lv_str, allLive, Bool.and_true, rd_ne _ _ _ hne]
  repeat (with_reducible refine And.intro ?_ ?_; · first | trivial | omega | (intro hg; simp only [Bool.and_eq_true, Bool.or_eq_true, Bool.not_eq_true', Bool.and_eq_false_iff, Bool.or_eq_false_iff, Bool.not_eq_false', decide_eq_true_eq, decide_eq_false_iff_not, eqNil] at hg; omega) )
  refine aOps_callV (V := .int .i64 (checkE d)) (by rfl) (by rfl) (c_Check w₀ _ d hl) ?_
  simp (decide := true) only [aOps_nil, ev, putD, Slots.put, Slots.get, Slots.keep, if_true, if_false, true_and, ↓ap_assign, pop_assign]
  repeat (with_reducible refine And.intro ?_ ?_; · first | trivial | omega | (intro hg; simp only [Bool.and_eq_true, Bool.or_eq_true, Bool.not_eq_true', Bool.and_eq_false_iff, Bool.or_eq_false_iff, Bool.not_eq_false', decide_eq_true_eq, decide_eq_false_iff_not, eqNil] at hg; omega) )
  apply hK; clear hK K
  -- region 2  decimals.go:310
  refine awp_rseq [1, 2, 4, 7, 15] (by rfl) fun K hK => ?_
  simp (decide := true) only [aOps_nil, ev, absV, absS, putD, Slots.put, Slots.get, Slots.keep, if_true, if_false, true_and, ↓ap_move, pop_move, ↓ap_binOp, pop_binOp, isNilC_int, cond_false, pBinX_int, pI_neq]
  repeat (with_reducible refine And.intro ?_ ?_; · first | trivial | omega | (intro hg; simp only [Bool.and_eq_true, Bool.or_eq_true, Bool.not_eq_true', Bool.and_eq_false_iff, Bool.or_eq_false_iff, Bool.not_eq_false', decide_eq_true_eq, decide_eq_false_iff_not, eqNil] at hg; omega) )
  apply hK; clear hK K
  refine awp_cond (b := _) rfl (fun hb1 => ?_) (fun hb1 => ?_)
  · try simp only [decide_eq_false_iff_not, Bool.not_eq_true'] at hb1
    -- region 3  decimals.go:311
    refine awp_rseq [4, 5, 6] (by rfl) fun K hK => ?_
    simp (decide := true) only [ev, absV, absS, putD, Slots.put, Slots.get, if_true, if_false, true_and, ↓ap_build, ↓pop_buildL, bld27_, evP, List.map_nil, ↓ap_move, pop_move]
    repeat (with_reducible refine And.intro ?_ ?_; · first | trivial | omega | (intro hg; simp only [Bool.and_eq_true, Bool.or_eq_true, Bool.not_eq_true', Bool.and_eq_false_iff, Bool.or_eq_false_iff, Bool.not_eq_false', decide_eq_true_eq, decide_eq_false_iff_not, eqNil] at hg; omega) )
    refine aOps_store (by rfl) (by rfl) (AHeap.set_same _ _ _) sz27 (by rfl) (by rfl) (by first | exact Nat.le_refl _ | decide | (simp; done) | (simp; omega)) (Nat.zero_le _) (by rfl) ?_
    simp only [AHeap.set_set, AVal.cells]
    simp (decide := true) only [aOps_nil, ev, absV, absS, putD, Slots.put, Slots.get, Slots.keep, if_true, if_false, true_and, ↓ap_assign, pop_assign, setAt, List.set_cons_zero, List.set_cons_succ, Nat.zero_add, Nat.reduceAdd]
    repeat (with_reducible refine And.intro ?_ ?_; · first | trivial | omega | (intro hg; simp only [Bool.and_eq_true, Bool.or_eq_true, Bool.not_eq_true', Bool.and_eq_false_iff, Bool.or_eq_false_iff, Bool.not_eq_false', decide_eq_true_eq, decide_eq_false_iff_not, eqNil] at hg; omega) )
    apply hK; clear hK K
    refine awp_ret ?_
    try simp only [thenA_ret]
    refine retA_ret h ((Sub.set hk0q0).trans (Sub.set hk0q1)) (?_) ?_
    · simp (decide := true) only [resPre, resV_tmp, resV_cell, Slots.get, if_true, if_false, and_true, resV_tmp, resV_cell, pLoad_agg ag27 sz27, rd_set, cellsAt, List.getD_cons_zero, List.getD_cons_succ, Nat.zero_add, Nat.reduceAdd, lv_bool, lv_int, lv_str, allLive, Bool.and_true, cellsAt, List.getD_cons_zero, List.getD_cons_succ, Nat.zero_add, Nat.reduceAdd, lv_bool, lv_int, lv_str, allLive, Bool.and_true]
    
    simp (decide := true) only [Slots.get, if_true, if_false, and_true, resOfG_three, resV_tmp, resV_cell, pLoad_agg ag27 sz27, rd_set, cellsAt, List.getD_cons_zero, List.getD_cons_succ, Nat.zero_add, Nat.reduceAdd, lv_bool, lv_int, lv_str, allLive, Bool.and_true, cellsAt, List.getD_cons_zero, List.getD_cons_succ, Nat.zero_add, Nat.reduceAdd, lv_bool, lv_int, lv_str, allLive, Bool.and_true, decA]
    have e1 := checkE_01 d
    rw [cutE, if_neg hb1, show checkE d = 1 by omega]
    rfl
  · try simp only [decide_eq_true_eq, Bool.not_eq_false'] at hb1
    obtain ⟨sd, dd, nd, _⟩ := Small_of_check hb1
    have ha1 := sd.l
    have ha2 := sd.s0
    have ha3 := sd.s1
    refine awp_skip ?_
    change Awp _ _ _ _ _ _ _
    refine awp_seq ?_
    -- region 4  decimals.go:313
    refine awp_rseq [1, 2, 4, 21] (by rfl) fun K hK => ?_
    simp (decide := true) only [aOps_nil, ev, putD, Slots.put, Slots.get, Slots.keep, if_true, if_false, true_and, ↓ap_move, pop_move, ↓ap_fieldAddr, pop_fieldAddr, fa27_2, ↓ap_loadL, apL_mk, pLoad_one ag3, ↓ap_binOp, pop_binOp, isNilC_tmp, cond_false, pBinX_int, pI_geq, rd_any, List.getD_cons_zero, List.getD_cons_succ, Nat.zero_add, lv_int, rd_ne _ _ _ hne]
    repeat (with_reducible refine And.intro ?_ ?_; · first | trivial | omega | (intro hg; simp only [Bool.and_eq_true, Bool.or_eq_true, Bool.not_eq_true', Bool.and_eq_false_iff, Bool.or_eq_false_iff, Bool.not_eq_false', decide_eq_true_eq, decide_eq_false_iff_not, eqNil] at hg; omega) )
    apply hK; clear hK K
    refine awp_cond (b := _) rfl (fun hb2 => ?_) (fun hb2 => ?_)
    · try simp only [decide_eq_true_eq] at hb2
      -- region 5  decimals.go:314
      refine awp_rseq [4, 5, 6] (by rfl) fun K hK => ?_
      simp (decide := true) only [ev, putD, Slots.put, Slots.get, if_true, if_false, true_and, ↓ap_loadL, apL_mk, pLoad_agg ag27 sz27, rd_any, cellsAt, List.getD_cons_zero, List.getD_cons_succ, Nat.zero_add, Nat.reduceAdd, lv_bool, lv_int, lv_str, allLive, Bool.and_true, rd_ne _ _ _ hne]
      repeat (with_reducible refine And.intro ?_ ?_; · first | trivial | omega | (intro hg; simp only [Bool.and_eq_true, Bool.or_eq_true, Bool.not_eq_true', Bool.and_eq_false_iff, Bool.or_eq_false_iff, Bool.not_eq_false', decide_eq_true_eq, decide_eq_false_iff_not, eqNil] at hg; omega) )
      refine aOps_store (by rfl) (by rfl) (AHeap.set_same _ _ _) sz27 (by rfl) (by rfl) (by first | exact Nat.le_refl _ | decide | (simp; done) | (simp; omega)) (Nat.zero_le _) (by rfl) ?_
      simp only [AHeap.set_set, AVal.cells]
      simp (decide := true) only [aOps_nil, ev, absV, absS, putD, Slots.put, Slots.get, Slots.keep, if_true, if_false, true_and, ↓ap_assign, pop_assign, setAt, List.set_cons_zero, List.set_cons_succ, Nat.zero_add, Nat.reduceAdd]
      repeat (with_reducible refine And.intro ?_ ?_; · first | trivial | omega | (intro hg; simp only [Bool.and_eq_true, Bool.or_eq_true, Bool.not_eq_true', Bool.and_eq_false_iff, Bool.or_eq_false_iff, Bool.not_eq_false', decide_eq_true_eq, decide_eq_false_iff_not, eqNil] at hg; omega) )
      apply hK; clear hK K
      refine awp_ret ?_
      try simp only [thenA_ret]
      refine retA_ret h ((Sub.set hk0q0).trans (Sub.set hk0q1)) (?_) ?_
      · simp (decide := true) only [resPre, resV_tmp, resV_cell, Slots.get, if_true, if_false, and_true, resV_tmp, resV_cell, pLoad_agg ag27 sz27, rd_set, cellsAt, List.getD_cons_zero, List.getD_cons_succ, Nat.zero_add, Nat.reduceAdd, lv_bool, lv_int, lv_str, allLive, Bool.and_true, cellsAt, List.getD_cons_zero, List.getD_cons_succ, Nat.zero_add, Nat.reduceAdd, lv_bool, lv_int, lv_str, allLive, Bool.and_true]
      
      simp (decide := true) only [Slots.get, if_true, if_false, and_true, resOfG_three, resV_tmp, resV_cell, pLoad_agg ag27 sz27, rd_set, cellsAt, List.getD_cons_zero, List.getD_cons_succ, Nat.zero_add, Nat.reduceAdd, lv_bool, lv_int, lv_str, allLive, Bool.and_true, cellsAt, List.getD_cons_zero, List.getD_cons_succ, Nat.zero_add, Nat.reduceAdd, lv_bool, lv_int, lv_str, allLive, Bool.and_true, decA]
      rw [cutE, if_pos hb1, if_pos hb2]
    · try simp only [decide_eq_false_iff_not] at hb2
      refine awp_skip ?_
      change Awp _ _ _ _ _ _ _
      -- region 6  decimals.go:316
      refine awp_rseq [1, 2, 4, 8] (by rfl) fun K hK => ?_
      simp (decide := true) only [aOps_nil, ev, putD, Slots.put, Slots.get, Slots.keep, if_true, if_false, true_and, ↓ap_fieldAddr, pop_fieldAddr, fa27_1, ↓ap_loadL, apL_mk, pLoad_one ag9, ↓ap_len, pop_len, pLen_str Tryz.underlying9, ↓ap_assign, pop_assign, rd_any, List.getD_cons_zero, List.getD_cons_succ, Nat.zero_add, lv_str, rd_ne _ _ _ hne]
      repeat (with_reducible refine And.intro ?_ ?_; · first | trivial | omega | (intro hg; simp only [Bool.and_eq_true, Bool.or_eq_true, Bool.not_eq_true', Bool.and_eq_false_iff, Bool.or_eq_false_iff, Bool.not_eq_false', decide_eq_true_eq, decide_eq_false_iff_not, eqNil] at hg; omega) )
      apply hK; clear hK K
      refine awp_seq ?_
      -- region 7  decimals.go:317
      refine awp_rseq [1, 2, 4, 8, 27] (by rfl) fun K hK => ?_
      simp (decide := true) only [aOps_nil, ev, absV, absS, putD, Slots.put, Slots.get, Slots.keep, if_true, if_false, true_and, ↓ap_move, pop_move, ↓ap_binOp, pop_binOp, isNilC_int, cond_false, pBinX_int, pI_gtr]
      repeat (with_reducible refine And.intro ?_ ?_; · first | trivial | omega | (intro hg; simp only [Bool.and_eq_true, Bool.or_eq_true, Bool.not_eq_true', Bool.and_eq_false_iff, Bool.or_eq_false_iff, Bool.not_eq_false', decide_eq_true_eq, decide_eq_false_iff_not, eqNil] at hg; omega) )
      apply hK; clear hK K
      refine awp_joinT [2, 4, 8] (fun m : Nat => [(2, .ptr (.own k0q0) 0), (4, .ptr (.own k0q1) 0), (8, .int .i64 m)]) (fun m : Nat => (h.set k0q0 ⟨[.bool d.neg, .str d.dig, .int .i64 d.scale], 0⟩).set k0q1 ⟨[.bool false, .str [], .int .i64 0], 0⟩) (fun m : Nat => m = min d.dig.length (d.scale - scale).toNat) ?_ ?_
      · refine awp_cond (b := _) rfl (fun hb3 => ?_) (fun hb3 => ?_)
        · try simp only [decide_eq_true_eq] at hb3
          -- region 8  decimals.go:318
          refine awp_r [2, 4, 8] (by rfl) ?_
          simp (decide := true) only [aOps_nil, ev, putD, Slots.put, Slots.get, Slots.keep, if_true, if_false, true_and, ↓ap_move, pop_move, ↓ap_fieldAddr, pop_fieldAddr, fa27_2, ↓ap_loadL, apL_mk, pLoad_one ag3, ↓ap_binOp, pop_binOp, isNilC_tmp, cond_false, pBinX_int, pI_sub, ↓ap_min, pop_min, pMin_int, evs, List.map_cons, List.map_nil, ↓ap_assign, pop_assign, rd_any, List.getD_cons_zero, List.getD_cons_succ, Nat.zero_add, lv_int, decA, rd_ne _ _ _ hne]
          try simp (disch := omega) only [wrap_i64]
          repeat (with_reducible refine And.intro ?_ ?_; · first | trivial | omega | (intro hg; simp only [Bool.and_eq_true, Bool.or_eq_true, Bool.not_eq_true', Bool.and_eq_false_iff, Bool.or_eq_false_iff, Bool.not_eq_false', decide_eq_true_eq, decide_eq_false_iff_not, eqNil] at hg; omega) )
          try simp only [thenA_normal]
          refine ⟨min d.dig.length (d.scale - scale).toNat, ?_, Sub.refl _, rfl⟩
          first
          | (rw [show min (d.dig.length : Int) (d.scale - scale) = ((min d.dig.length (d.scale - scale).toNat : Nat) : Int) by omega]; rfl)
          | (rw [show (d.dig.length : Int) = ((min d.dig.length (d.scale - scale).toNat : Nat) : Int) by omega]; rfl)
        · try simp only [decide_eq_false_iff_not] at hb3
          refine awp_skip ?_
          try simp only [thenA_normal]
          refine ⟨min d.dig.length (d.scale - scale).toNat, ?_, Sub.refl _, rfl⟩
          first
          | (rw [show min (d.dig.length : Int) (d.scale - scale) = ((min d.dig.length (d.scale - scale).toNat : Nat) : Int) by omega]; rfl)
          | (rw [show (d.dig.length : Int) = ((min d.dig.length (d.scale - scale).toNat : Nat) : Int) by omega]; rfl)
      · intro m hm
        have hml : m ≤ d.dig.length := by omega
        have hidx : ((d.dig.length : Int) - m).toNat = d.dig.length - m := by omega
        obtain ⟨sp1, sp2⟩ := natOf_split d.dig dd m hml
        obtain ⟨mn1, mn2⟩ := cut_min d.dig dd (d.scale - scale).toNat
        rw [← hm] at mn1 mn2
        have hlost : List.take (d.dig.length - (d.dig.length - m)) (List.drop (d.dig.length - m) d.dig) = List.drop (d.dig.length - m) d.dig := List.take_of_length_le (by simp)
        have hdrop : (List.drop (d.dig.length - m) d.dig).all dg = true := by
          rw [List.all_eq_true] at dd ⊢
          exact fun b hb => dd b (List.mem_of_mem_drop hb)
        have htake : (List.take (d.dig.length - m) d.dig ++ List.replicate m 48).all dg = true := by
          rw [all_append, all_zeros, Bool.and_true, List.all_eq_true]
          rw [List.all_eq_true] at dd
          exact fun b hb => dd b (List.mem_of_mem_take hb)
        -- region 9  decimals.go:320
        refine awp_rseq [2, 4, 8, 9] (by rfl) fun K hK => ?_
        simp (decide := true) only [ev, putD, Slots.put, Slots.get, if_true, if_false, true_and, ↓ap_fieldAddr, pop_fieldAddr, fa27_1, ↓ap_loadL, apL_mk, pLoad_one ag9, ↓ap_len, pop_len, pLen_str Tryz.underlying9, ↓ap_move, pop_move, ↓ap_binOp, pop_binOp, isNilC_tmp, cond_false, pBinX_int, pI_sub, rd_any, List.getD_cons_zero, List.getD_cons_succ, Nat.zero_add, lv_str, rd_ne _ _ _ hne]
        try simp (disch := omega) only [wrap_i64]
        try simp (decide := true) only [aOps_nil, ev, putD, Slots.put, Slots.get, Slots.keep, if_true, if_false, true_and, ↓ap_slice, pop_slice, evO, pSliceS_i0 Tryz.underlying9, pSliceS, bndA_none, bndA_int, ↓ap_assign, pop_assign, hidx, Int.toNat_natCast, hlost]
        repeat (with_reducible refine And.intro ?_ ?_; · first | trivial | omega | (intro hg; simp only [Bool.and_eq_true, Bool.or_eq_true, Bool.not_eq_true', Bool.and_eq_false_iff, Bool.or_eq_false_iff, Bool.not_eq_false', decide_eq_true_eq, decide_eq_false_iff_not, eqNil] at hg; omega) )
        apply hK; clear hK K
        -- region 10  decimals.go:321
        refine awp_dseq_F 20 [18] [4, 9, 10, 11] mixed (by kernel_rfl) (by rfl) fun K hK => ?_
        simp only [List.take_succ_cons, List.take_zero, List.drop_succ_cons, List.drop_zero]
        simp (decide := true) only [ev, putD, Slots.put, Slots.get, if_true, if_false, true_and, ↓fp_fieldAddr, pop_fieldAddr, fa27_0, ↓fp_load, pop_load, pLoad_one ag4, fa27_1, pLoad_one ag9, ↓fp_len, pop_len, pLen_str Tryz.underlying9, ↓fp_move, pop_move, ↓fp_binOp, pop_binOp, isNilC_tmp, cond_false, pBinX_int, pI_sub, ↓fp_slice, pop_slice, evO, pSliceS_0i Tryz.underlying9, pSliceS, bndA_none, bndA_int, rd_any, List.getD_cons_zero, List.getD_cons_succ, Nat.zero_add, lv_bool, lv_str, rd_ne _ _ _ hne, Int.toNat_natCast, List.drop_zero, Nat.sub_zero]
        try simp (disch := omega) only [wrap_i64]
        repeat (with_reducible refine And.intro ?_ ?_; · first | trivial | omega | (intro hg; simp only [Bool.and_eq_true, Bool.or_eq_true, Bool.not_eq_true', Bool.and_eq_false_iff, Bool.or_eq_false_iff, Bool.not_eq_false', decide_eq_true_eq, decide_eq_false_iff_not, eqNil] at hg; omega) )
        refine fOps_callV (V := .str (List.replicate m 48)) (by rfl) (by rfl) (by first | trivial | (simp (decide := true) only [AVal.okIn, okInL, and_true, true_and, decA, AHeap.set_same, Option.isSome_some]; done) | (simp [AVal.okIn, okInL, AHeap.set]; done)) (fun g hg => c_repeat w₀ _ 48 m (by omega)) ?_
        simp (decide := true) only [ev, putD, Slots.put, Slots.get, if_true, if_false, true_and, ↓fp_binOp, pop_binOp, isNilC_tmp, cond_false, pBinX_str, pS_add, ↓fp_fieldAddr, pop_fieldAddr, fa27_2, ↓fp_load, pop_load, pLoad_one ag3, rd_any, List.getD_cons_zero, List.getD_cons_succ, Nat.zero_add, lv_int, rd_ne _ _ _ hne, hidx]
        repeat (with_reducible refine And.intro ?_ ?_; · first | trivial | omega | (intro hg; simp only [Bool.and_eq_true, Bool.or_eq_true, Bool.not_eq_true', Bool.and_eq_false_iff, Bool.or_eq_false_iff, Bool.not_eq_false', decide_eq_true_eq, decide_eq_false_iff_not, eqNil] at hg; omega) )
        refine And.intro (by simp; omega) ?_
        refine fOps_callV (V := .tuple [decA (normE d.neg (natOf d.dig / 10 ^ m * 10 ^ m) d.scale).1, .int .i64 (normE d.neg (natOf d.dig / 10 ^ m * 10 ^ m) d.scale).2]) (by rfl) (by rfl) (by first | trivial | (simp (decide := true) only [AVal.okIn, okInL, and_true, true_and, decA, AHeap.set_same, Option.isSome_some]; done) | (simp [AVal.okIn, okInL, AHeap.set]; done)) (fun g hg => (c_normal w₀ _ d.neg _ d.scale htake (by simp; omega) (by omega) (by omega)).val (by rw [natOf_append, natOf_zeros, List.length_replicate, sp1, Nat.add_zero])) ?_
        simp (decide := true) only [ev, putD, Slots.put, Slots.get, if_true, if_false, true_and, ↓fp_move, pop_move, ↓fp_extract, pop_extract, pExt_tuple, List.length_cons, List.length_nil, List.getD_cons_zero, List.getD_cons_succ, List.getD_cons_zero, List.getD_cons_succ, Nat.zero_add, Nat.reduceAdd, decA]
        repeat (with_reducible refine And.intro ?_ ?_; · first | trivial | omega | (intro hg; simp only [Bool.and_eq_true, Bool.or_eq_true, Bool.not_eq_true', Bool.and_eq_false_iff, Bool.or_eq_false_iff, Bool.not_eq_false', decide_eq_true_eq, decide_eq_false_iff_not, eqNil] at hg; omega) )
        refine fOps_lay (by rfl) ?_
        refine aOps_alloc ze27 (cs := [.bool false, .str [], .int .i64 0]) (by rfl) fun k10q19 hk10q19 => ?_
        have hneA := AHeap.ne_of hk10q19
        have hneB := AHeap.ne_of2 hk10q19
        rw [aOps_nil]
        repeat (with_reducible refine And.intro ?_ ?_; · first | trivial | omega | (intro hg; simp only [Bool.and_eq_true, Bool.or_eq_true, Bool.not_eq_true', Bool.and_eq_false_iff, Bool.or_eq_false_iff, Bool.not_eq_false', decide_eq_true_eq, decide_eq_false_iff_not, eqNil] at hg; omega) )
        try simp only [fOps_nil]
        refine aOps_store (by rfl) (by rfl) (AHeap.set_same _ _ _) sz27 (by rfl) (by rfl) (by first | exact Nat.le_refl _ | decide | (simp; done) | (simp; omega)) (Nat.zero_le _) (by rfl) ?_
        simp only [AHeap.set_set, AVal.cells]
        simp (decide := true) only [aOps_nil, ev, putD, Slots.put, Slots.get, Slots.keep, if_true, if_false, true_and, ↓ap_assign, pop_assign, setAt, List.set_cons_zero, List.set_cons_succ, Nat.zero_add, Nat.reduceAdd]
        repeat (with_reducible refine And.intro ?_ ?_; · first | trivial | omega | (intro hg; simp only [Bool.and_eq_true, Bool.or_eq_true, Bool.not_eq_true', Bool.and_eq_false_iff, Bool.or_eq_false_iff, Bool.not_eq_false', decide_eq_true_eq, decide_eq_false_iff_not, eqNil] at hg; omega) )
        apply hK; clear hK K
        -- region 11  decimals.go:322
        refine awp_dseq_F 5 [3, 4] [4, 5, 6] mixed (by kernel_rfl) (by rfl) fun K hK => ?_
        simp only [List.take_succ_cons, List.take_zero, List.drop_succ_cons, List.drop_zero]
        simp (decide := true) only [ev, putD, Slots.put, Slots.get, if_true, if_false, true_and, ↓fp_load, pop_load, pLoad_agg ag27 sz27, ↓fp_move, pop_move, rd_any, cellsAt, List.getD_cons_zero, List.getD_cons_succ, Nat.zero_add, Nat.reduceAdd, lv_bool, lv_int, lv_str, allLive, Bool.and_true]
        repeat (with_reducible refine And.intro ?_ ?_; · first | trivial | omega | (intro hg; simp only [Bool.and_eq_true, Bool.or_eq_true, Bool.not_eq_true', Bool.and_eq_false_iff, Bool.or_eq_false_iff, Bool.not_eq_false', decide_eq_true_eq, decide_eq_false_iff_not, eqNil] at hg; omega) )
        refine fOps_callV (V := .str (Go.Lib.trimB (List.drop (d.dig.length - m) d.dig) 48)) (by rfl) (by rfl) (by first | trivial | (simp (decide := true) only [AVal.okIn, okInL, and_true, true_and, decA, AHeap.set_same, Option.isSome_some]; done) | (simp [AVal.okIn, okInL, AHeap.set]; done)) (fun g hg => c_trim0 w₀ _ _ 48 (by decide) (by simp; omega)) ?_
        simp (decide := true) only [fOps_nil, ev, absV, absS, putD, Slots.put, Slots.get, if_true, if_false, true_and, ↓fp_binOp, pop_binOp, isNilC_str, cond_false, pBinX_str, pS_eql, ↓fp_move, pop_move]
        repeat (with_reducible refine And.intro ?_ ?_; · first | trivial | omega | (intro hg; simp only [Bool.and_eq_true, Bool.or_eq_true, Bool.not_eq_true', Bool.and_eq_false_iff, Bool.or_eq_false_iff, Bool.not_eq_false', decide_eq_true_eq, decide_eq_false_iff_not, eqNil] at hg; omega) )
        try simp only [vOps_nil, fOps_nil]
        refine aOps_store (b := ⟨[.bool false, .str [], .int .i64 0], 0⟩) (by rfl) (by rfl) (by rw [AHeap.set_ne _ _ hneA, AHeap.set_same]) sz27 (by rfl) (by rfl) (by simp) (Nat.zero_le _) (by rfl) ?_
        rw [AHeap.set_comm _ _ _ hneA, AHeap.set_set]
        simp (decide := true) only [aOps_nil, ev, putD, Slots.put, Slots.get, Slots.keep, if_true, if_false, true_and, ↓ap_assign, pop_assign, AVal.cells, setAt, List.set_cons_zero, List.set_cons_succ, Nat.zero_add, Nat.reduceAdd]
        repeat (with_reducible refine And.intro ?_ ?_; · first | trivial | omega | (intro hg; simp only [Bool.and_eq_true, Bool.or_eq_true, Bool.not_eq_true', Bool.and_eq_false_iff, Bool.or_eq_false_iff, Bool.not_eq_false', decide_eq_true_eq, decide_eq_false_iff_not, eqNil] at hg; omega) )
        apply hK; clear hK K
        refine awp_ret ?_
        try simp only [thenA_ret, inBlockA_ret]
        refine retA_ret h ((Sub.two hk0q0 hk0q1).trans_set ((Sub.two hk0q0 hk0q1).none hk10q19)) (?_) ?_
        · simp (decide := true) only [resPre, resV_tmp, resV_cell, Slots.get, if_true, if_false, and_true, resV_tmp, resV_cell, pLoad_agg ag27 sz27, rd_set, cellsAt, List.getD_cons_zero, List.getD_cons_succ, Nat.zero_add, Nat.reduceAdd, lv_bool, lv_int, lv_str, allLive, Bool.and_true, cellsAt, List.getD_cons_zero, List.getD_cons_succ, Nat.zero_add, Nat.reduceAdd, lv_bool, lv_int, lv_str, allLive, Bool.and_true, rd_ne _ _ _ hneA]
        
        simp (decide := true) only [Slots.get, if_true, if_false, and_true, resOfG_three, resV_tmp, resV_cell, pLoad_agg ag27 sz27, rd_set, cellsAt, List.getD_cons_zero, List.getD_cons_succ, Nat.zero_add, Nat.reduceAdd, lv_bool, lv_int, lv_str, allLive, Bool.and_true, cellsAt, List.getD_cons_zero, List.getD_cons_succ, Nat.zero_add, Nat.reduceAdd, lv_bool, lv_int, lv_str, allLive, Bool.and_true, decA, rd_ne _ _ _ hneA]
        rw [trim_zero _ hdrop, sp2, mn2, mn1, cutE, if_pos hb1, if_neg hb2]
end Go.Proofs.YthiiakghjoeikaaGreatDoor

/-
  Contracts of the statements' functions: a number from plain data.
  Conditions: none.
-/
namespace Go.Proofs.YthiiakghjoeikaaGreatDoor
open Go.AM
open Go.Proofs
open Go.Dec
open Go.Lib (decDigits)
set_option maxRecDepth 100000

/-- Go's table of the powers of ten lies as its initialiser lays it. -/
abbrev Tab10 (w : World) : Prop := Lib.TabIs Tryz.prog w "internal/strconv.uint64pow10" .u64 Lib.pow10Tab
theorem Tab10.later {w w' : World} (h : Tab10 w) (hb : Go.RowKit.Below w.heap.size w w') : Tab10 w' := Go.Joins.tab_stays (g := 0) (by kernel_rfl) h hb (Nat.le_refl _)
theorem c_itoa (w₀ : World) (ht : Tab10 w₀) (h : AHeap) (n : Int) (h0 : -9223372036854775808 ≤ n) (h1 : n ≤ 9223372036854775807) :
    ACall Tryz.prog w₀ 40 [.int .i64 n] h (fun v h' => v = .str (Lib.itoa n) ∧ h' = h) := by
  refine acall_of_callsB (vals := [.int .i64 n]) (val := .string ⟨(Lib.itoa n).toArray⟩) Tryz.func40 rfl rfl (fun φ vs hv => VRs_i hv) (fun φ => rfl) fun w hb => ?_
  refine (Tryz.strconv_Itoa n h0 h1 w (ht.later hb)).mono fun e w' ⟨e1, k, os, e2⟩ => ⟨e1, ?_⟩
  subst e2
  exact Go.Lib.below_grow _ w (Nat.le_refl _) k os

/-- The digits of a number as plain data. -/
def digN (bs : List UInt8) : List UInt8 := (bs.take 62).map fun b => dch (b.toNat % 10)
def ofN (neg : Bool) (bs : List UInt8) (sc : UInt8) : D := canon neg (natOf (digN bs)) (sc.toNat % 63)

theorem digN_len (bs : List UInt8) : (digN bs).length = min 62 bs.length := by simp [digN]
theorem map_all (l : List UInt8) : (l.map fun b => dch (b.toNat % 10)).all dg = true := by
  rw [List.all_eq_true]
  intro x hx
  simp only [List.mem_map] at hx
  obtain ⟨b, _, rfl⟩ := hx
  exact dch_dg (Nat.mod_lt _ (by omega))
theorem digN_all (bs : List UInt8) : (digN bs).all dg = true := map_all _
theorem take_snoc (bs : List UInt8) (i : Nat) (hi : i < bs.length) : bs.take (i + 1) = bs.take i ++ [bs.getD i 0] := by
  rw [List.take_add_one, List.getD, List.getElem?_eq_getElem hi]
  rfl

theorem c_ofN (w₀ : World) (h : AHeap) (neg : Bool) (v : AVal) (bs : List UInt8) (sc : UInt8) (hb : IsB w₀ h v bs) (hl : bs.length ≤ 9223372036854775807) :
    ACall Tryz.prog w₀ 14 [.agg [.bool neg, v, .int .u8 sc.toNat]] h (fun r h' => r = decA (ofN neg bs sc) ∧ h' = h) := by
  have hsc := sc.toNat_lt
  have hlv := hb.live
  refine acall_intro (n := 34) (rs := [.cell 2 27]) Tryz.func14 rfl rfl rfl rfl (Nat.le_of_ble_eq_true rfl) ?_
  simp only [initSlots]
  -- region 0  law.go:19
  refine awp_rseq [1, 2] (by rfl) fun K hK => ?_
  refine aOps_box (by rfl) (by rfl) (by rfl) fun k0q0 hk0q0 => ?_
  try have hf_0q0 : h k0q0 = none := by first | assumption | (simp only [AHeap.set_none] at hk0q0; simp only [hk0q0])
  skip
  refine aOps_alloc ze27 (cs := [.bool false, .str [], .int .i64 0]) (by rfl) fun k0q1 hk0q1 => ?_
  have ne_0q1_0q0 : k0q1 ≠ k0q0 := by simp only [AHeap.set_none] at hk0q1; simp only [hk0q1, ne_eq, not_false_eq_true]
  try have hf_0q1 : h k0q1 = none := by first | assumption | (simp only [AHeap.set_none] at hk0q1; simp only [hk0q1])
  simp (decide := true) only [aOps_nil, ev, putD, Slots.put, Slots.get, Slots.keep, if_true, if_false, AVal.cells]
  repeat (with_reducible refine And.intro ?_ ?_; · first | trivial | omega | (intro hg; simp only [Bool.and_eq_true, Bool.or_eq_true, Bool.not_eq_true', Bool.and_eq_false_iff, Bool.or_eq_false_iff, Bool.not_eq_false', decide_eq_true_eq, decide_eq_false_iff_not, eqNil] at hg; omega) )
  apply hK; clear hK K
  -- region 1  law.go:20
  refine awp_rseq [1, 2, 3] (by rfl) fun K hK => ?_
  simp (decide := true) only [aOps_nil, ev, absV, absS, putD, Slots.put, Slots.keep, if_true, if_false, true_and, ↓ap_assign, pop_assign]
  repeat (with_reducible refine And.intro ?_ ?_; · first | trivial | omega | (intro hg; simp only [Bool.and_eq_true, Bool.or_eq_true, Bool.not_eq_true', Bool.and_eq_false_iff, Bool.or_eq_false_iff, Bool.not_eq_false', decide_eq_true_eq, decide_eq_false_iff_not, eqNil] at hg; omega) )
  apply hK; clear hK K
  refine awp_seq ?_
  -- region 2  law.go:21
  refine awp_rseq [1, 2, 3, 4] (by rfl) fun K hK => ?_
  simp (decide := true) only [aOps_nil, ev, absV, absS, putD, Slots.put, Slots.keep, if_true, if_false, true_and, ↓ap_assign, pop_assign]
  repeat (with_reducible refine And.intro ?_ ?_; · first | trivial | omega | (intro hg; simp only [Bool.and_eq_true, Bool.or_eq_true, Bool.not_eq_true', Bool.and_eq_false_iff, Bool.or_eq_false_iff, Bool.not_eq_false', decide_eq_true_eq, decide_eq_false_iff_not, eqNil] at hg; omega) )
  apply hK; clear hK K
  refine awp_block ?_
  refine awp_loopG [1, 2, 3, 4] (fun i : Nat => [(1, .ptr (.own k0q0) 0), (2, .ptr (.own k0q1) 0), (3, .str ((bs.take i).map fun b => dch (b.toNat % 10))), (4, .int .i64 i)]) (fun i : Nat => (h.set k0q0 ⟨[.bool neg, v, .int .u8 sc.toNat], 0⟩).set k0q1 ⟨[.bool false, .str [], .int .i64 0], 0⟩) (fun i : Nat => i ≤ bs.length ∧ i ≤ 62) (fun i : Nat => bs.length - i) 0 (by rfl) (Sub.refl _) ⟨Nat.zero_le _, by omega⟩ ?_
  rintro i ⟨hi, hi2⟩
  have hbs : IsB w₀ ((h.set k0q0 ⟨[.bool neg, v, .int .u8 sc.toNat], 0⟩).set k0q1 ⟨[.bool false, .str [], .int .i64 0], 0⟩) v bs := hb.mono (by repeat (first | exact Sub.refl _ | refine Sub.trans_set ?_ (by assumption)))
  refine awp_seq ?_
  -- region 3  law.go:21
  refine awp_rseq [1, 2, 3, 4, 13] (by rfl) fun K hK => ?_
  simp (decide := true) only [aOps_nil, ev, absV, absS, putD, Slots.put, Slots.get, Slots.keep, if_true, if_false, true_and, ↓ap_move, pop_move, ↓ap_fieldAddr, pop_fieldAddr, fa24_1, ↓ap_loadL, apL_mk, pLoad_one ag22, ↓ap_len, pop_len, ↓ap_binOp, pop_binOp, isNilC_tmp, cond_false, pBinX_int, pI_lss, ↓ag_move, agP, agQ_some, nthDst, gKnown_bool, guardB_bool_true, implies_true, ↓ag_binOp, isNilC_int, cv_binl, cp_binl, ↓ap_pick, pop_pick, pPick_bool, pickV_cond_l, pickV_and, rd_ne', ne_eq, not_false_eq_true, ne_0q1_0q0.symm, rd_any, List.getD_cons_zero, List.getD_cons_succ, Nat.zero_add, hbs.len Tryz.underlying22, hlv]
  repeat (with_reducible refine And.intro ?_ ?_; · first | trivial | omega | (intro hg; simp only [Bool.and_eq_true, Bool.or_eq_true, Bool.not_eq_true', Bool.and_eq_false_iff, Bool.or_eq_false_iff, Bool.not_eq_false', decide_eq_true_eq, decide_eq_false_iff_not, eqNil] at hg; omega) )
  apply hK; clear hK K
  refine awp_cond (b := _) rfl (fun hb1 => ?_) (fun hb1 => ?_)
  · try simp only [decide_eq_true_eq, Bool.and_eq_true] at hb1
    refine awp_skip ?_
    change Awp _ _ _ _ _ _ _
    refine awp_seq ?_
    refine awp_block ?_
    -- region 5  law.go:22
    refine awp_r [1, 2, 3, 4] (by rfl) ?_
    simp (decide := true) only [ev, absV, absS, putD, Slots.put, Slots.get, if_true, if_false, true_and, ↓ap_move, pop_move, ↓ap_fieldAddr, pop_fieldAddr, fa24_1, ↓ap_loadL, apL_mk, pLoad_one ag22, ↓ap_indexAddrL, ↓ap_binOp, pop_binOp, isNilC_int, cond_false, pBinX_int, pI_rem, ↓ap_convert _ _ _ (es_int Tryz.underlying5 Tryz.underlying3), pop_convert, pConv_int Tryz.underlying5 Tryz.underlying3, rd_ne', ne_eq, not_false_eq_true, ne_0q1_0q0.symm, rd_any, List.getD_cons_zero, List.getD_cons_succ, Nat.zero_add, decA, hbs.apI Tryz.underlying22 sz5, hbs.apLd ag5, hlv, Int.toNat_natCast]
    try simp (disch := omega) only [wrap_i64, wrap_u8]
    repeat (with_reducible refine And.intro ?_ ?_; · first | trivial | omega | (intro hg; simp only [Bool.and_eq_true, Bool.or_eq_true, Bool.not_eq_true', Bool.and_eq_false_iff, Bool.or_eq_false_iff, Bool.not_eq_false', decide_eq_true_eq, decide_eq_false_iff_not, eqNil] at hg; omega) )
    rw [show ((bs.getD i 0).toNat : Int).tmod 10 = (((bs.getD i 0).toNat % 10 : Nat) : Int) by rw [Int.tmod_eq_emod_of_nonneg (by omega)]; omega, wrap_i64 (by omega) (by omega)]
    refine aOps_callV (V := .str (decDigits ((bs.getD i 0).toNat % 10))) (by rfl) (by rfl) (c_itoaSmall w₀ _ _ (by omega)) ?_
    simp (decide := true) only [aOps_nil, ev, putD, Slots.put, Slots.get, Slots.keep, if_true, if_false, true_and, ↓ap_binOp, pop_binOp, isNilC_tmp, cond_false, pBinX_str, pS_add, ↓ap_assign, pop_assign]
    rw [decDigits_small (Nat.mod_lt _ (by omega))]
    refine And.intro (by simp; omega) ?_
    change Awp _ _ _ _ _ _ _
    -- region 4  law.go:21
    refine awp_r [1, 2, 3, 4] (by rfl) ?_
    simp (decide := true) only [aOps_nil, ev, absV, absS, putD, Slots.put, Slots.get, Slots.keep, if_true, if_false, true_and, ↓ap_move, pop_move, ↓ap_binOp, pop_binOp, isNilC_int, cond_false, pBinX_int, pI_add, ↓ap_assign, pop_assign]
    try simp (disch := omega) only [wrap_i64]
    repeat (with_reducible refine And.intro ?_ ?_; · first | trivial | omega | (intro hg; simp only [Bool.and_eq_true, Bool.or_eq_true, Bool.not_eq_true', Bool.and_eq_false_iff, Bool.or_eq_false_iff, Bool.not_eq_false', decide_eq_true_eq, decide_eq_false_iff_not, eqNil] at hg; omega) )
    try simp only [thenA_normal]
    refine ⟨i + 1, ?_, Sub.refl _, ⟨by omega, by omega⟩, by omega⟩
    rw [take_snoc bs i (by omega), List.map_append]
    rfl
  · try simp only [decide_eq_false_iff_not, Bool.and_eq_false_iff] at hb1
    have htk : (bs.take i).map (fun b => dch (b.toNat % 10)) = digN bs := by
      rw [digN]
      congr 1
      rcases hb1 with e | e
      · rw [List.take_of_length_le (by omega), List.take_of_length_le (by omega)]
      · rw [show i = 62 by omega]
    rw [htk]
    refine awp_exit ?_
    change Awp _ _ _ _ _ _ _
    -- region 6  law.go:24
    refine awp_rseq [2] (by rfl) fun K hK => ?_
    simp (decide := true) only [ev, absV, absS, putD, Slots.put, Slots.get, if_true, if_false, true_and, ↓ap_fieldAddr, pop_fieldAddr, fa24_0, ↓ap_loadL, apL_mk, pLoad_one ag4, ↓ap_move, pop_move, fa24_2, pLoad_one ag5, ↓ap_binOp, pop_binOp, isNilC_int, cond_false, pBinX_int, pI_rem, ↓ap_convert _ _ _ (es_int Tryz.underlying5 Tryz.underlying3), pop_convert, pConv_int Tryz.underlying5 Tryz.underlying3, rd_ne', ne_eq, not_false_eq_true, ne_0q1_0q0.symm, rd_any, List.getD_cons_zero, List.getD_cons_succ, Nat.zero_add, lv_bool, lv_int]
    try simp (disch := omega) only [wrap_i64, wrap_u8]
    repeat (with_reducible refine And.intro ?_ ?_; · first | trivial | omega | (intro hg; simp only [Bool.and_eq_true, Bool.or_eq_true, Bool.not_eq_true', Bool.and_eq_false_iff, Bool.or_eq_false_iff, Bool.not_eq_false', decide_eq_true_eq, decide_eq_false_iff_not, eqNil] at hg; omega) )
    rw [show (sc.toNat : Int).tmod 63 = ((sc.toNat % 63 : Nat) : Int) by rw [Int.tmod_eq_emod_of_nonneg (by omega)]; omega, wrap_i64 (by omega) (by omega)]
    refine aOps_callV (V := decA (ofN neg bs sc)) (by rfl) (by rfl) ((c_Normal w₀ _ neg _ _ (digN_all _) (by rw [digN_len]; omega) (by omega) (by omega)).val (by rw [ofN]; rfl)) ?_
    refine aOps_store (by rfl) (by rfl) (by repeat (first | exact AHeap.set_same _ _ _ | assumption | refine (AHeap.set_ne _ _ (by first | assumption | exact Ne.symm (by assumption))).trans ?_)) sz27 (by rfl) (by rfl) (by first | exact Nat.le_refl _ | decide | (simp; done) | (simp; omega)) (Nat.zero_le _) (by rfl) ?_
    simp only [AHeap.set_set, AVal.cells]
    simp (decide := true) only [aOps_nil, ev, putD, Slots.put, Slots.get, Slots.keep, if_true, if_false, setAt, List.set_cons_zero, List.set_cons_succ, Nat.zero_add, Nat.reduceAdd, decA]
    repeat (with_reducible refine And.intro ?_ ?_; · first | trivial | omega | (intro hg; simp only [Bool.and_eq_true, Bool.or_eq_true, Bool.not_eq_true', Bool.and_eq_false_iff, Bool.or_eq_false_iff, Bool.not_eq_false', decide_eq_true_eq, decide_eq_false_iff_not, eqNil] at hg; omega) )
    apply hK; clear hK K
    refine awp_ret ?_
    try simp only [thenA_ret, inBlockA_ret]
    refine retA_ret h (by repeat (first | exact Sub.refl _ | assumption | refine Sub.trans_set ?_ (by assumption))) (?_) ?_
    · simp (decide := true) only [resPre, resV_cell, Slots.get, if_true, and_true, resV_cell, pLoad_agg ag27 sz27, rd_set, cellsAt, List.getD_cons_zero, List.getD_cons_succ, Nat.zero_add, Nat.reduceAdd, lv_bool, lv_int, lv_str, allLive, Bool.and_true, cellsAt, List.getD_cons_zero, List.getD_cons_succ, Nat.zero_add, Nat.reduceAdd, lv_bool, lv_int, lv_str, allLive, Bool.and_true]
    
    simp (decide := true) only [Slots.get, if_true, and_true, resOfG_one, resV_cell, pLoad_agg ag27 sz27, rd_set, cellsAt, List.getD_cons_zero, List.getD_cons_succ, Nat.zero_add, Nat.reduceAdd, lv_bool, lv_int, lv_str, allLive, Bool.and_true, cellsAt, List.getD_cons_zero, List.getD_cons_succ, Nat.zero_add, Nat.reduceAdd, lv_bool, lv_int, lv_str, allLive, Bool.and_true, decA]
    all_goals first | rfl | exact ⟨rfl, rfl⟩ | (simp (decide := true) only [if_true, if_false, *]; done) | (trace_state; fail)
end Go.Proofs.YthiiakghjoeikaaGreatDoor

/-
  Digits multiplied and divided, in plain Lean.
  Conditions: none.
-/
namespace Go.Dec
open Go.Lib (decDigits)

/-- The number that a row of numbers stands for, the highest place first. -/
def valL (zs : List Int) : Int := zs.foldl (fun a z => 10 * a + z) 0
theorem valL_foldl (zs : List Int) : ∀ a : Int, zs.foldl (fun a z => 10 * a + z) a = a * 10 ^ zs.length + valL zs := by
  induction zs with
  | nil => intro a; simp [valL]
  | cons z zs ih =>
    intro a
    simp only [List.foldl_cons, valL, List.length_cons]
    rw [ih (10 * a + z), ih (10 * 0 + z), Int.pow_succ, Int.add_mul, Int.add_mul, Int.mul_comm 10 a, Int.mul_assoc a 10, Int.mul_comm 10 (10 ^ zs.length)]
    omega
theorem valL_cons (z : Int) (zs : List Int) : valL (z :: zs) = z * 10 ^ zs.length + valL zs := by
  rw [valL, List.foldl_cons, valL_foldl]; simp
theorem valL_append (a b : List Int) : valL (a ++ b) = valL a * 10 ^ b.length + valL b := by
  unfold valL
  rw [List.foldl_append, valL_foldl b]; rfl
theorem valL_zeros (n : Nat) : valL (List.replicate n 0) = 0 := by
  induction n with
  | zero => rfl
  | succ n ih => rw [List.replicate_succ, valL_cons, ih]; simp
/-- One place turns. -/
theorem valL_set (zs : List Int) : ∀ (i : Nat) (c : Int), i < zs.length → valL (zs.set i c) = valL zs + (c - zs.getD i 0) * 10 ^ (zs.length - 1 - i) := by
  induction zs with
  | nil => intro i c h; simp at h
  | cons z zs ih =>
    intro i c h
    cases i with
    | zero =>
      simp only [List.set_cons_zero, valL_cons, List.getD_cons_zero, List.length_cons, Nat.sub_zero, Nat.add_sub_cancel]
      rw [Int.sub_mul]
      omega
    | succ i =>
      simp only [List.length_cons] at h
      simp only [List.set_cons_succ, valL_cons, List.getD_cons_succ, List.length_set, List.length_cons]
      rw [ih i c (by omega), show zs.length + 1 - 1 - (i + 1) = zs.length - 1 - i by omega]
      omega
theorem getL_set_self {α : Type} (zs : List α) (i : Nat) (c d : α) (h : i < zs.length) : (zs.set i c).getD i d = c := by simp [List.getD, h]
theorem getL_set_ne {α : Type} (zs : List α) (i j : Nat) (c d : α) (h : i ≠ j) : (zs.set i c).getD j d = zs.getD j d := by simp [List.getD, h]
/-- A row of digits is a text. -/
def chL (zs : List Int) : List UInt8 := zs.map fun z => dch z.toNat
theorem natOf_chL : ∀ (zs : List Int), (∀ z ∈ zs, 0 ≤ z ∧ z ≤ 9) → (natOf (chL zs) : Int) = valL zs ∧ (chL zs).all dg = true
  | [], _ => ⟨rfl, rfl⟩
  | z :: zs, h => by
    obtain ⟨h1, h2⟩ := natOf_chL zs fun x hx => h x (List.mem_cons_of_mem _ hx)
    obtain ⟨z0, z9⟩ := h z List.mem_cons_self
    have hl : (chL zs).length = zs.length := by simp [chL]
    constructor
    · show ((natOf (dch z.toNat :: chL zs) : Nat) : Int) = _
      rw [natOf_cons, valL_cons, dv_dch (by omega), hl]
      have : ((z.toNat * 10 ^ zs.length + natOf (chL zs) : Nat) : Int) = (z.toNat : Int) * 10 ^ zs.length + (natOf (chL zs) : Int) := by
        rw [Int.natCast_add, Int.natCast_mul, Int.natCast_pow]; rfl
      rw [this, h1, Int.toNat_of_nonneg z0]
    · show (dch z.toNat :: chL zs).all dg = true
      rw [List.all_cons, h2, dch_dg (by omega)]; rfl
theorem valL_nonneg : ∀ (zs : List Int), (∀ z ∈ zs, 0 ≤ z) → 0 ≤ valL zs
  | [], _ => by simp [valL]
  | z :: zs, h => by
    rw [valL_cons]
    have h1 := valL_nonneg zs fun x hx => h x (List.mem_cons_of_mem _ hx)
    have h2 : 0 ≤ z * 10 ^ zs.length := Int.mul_nonneg (h z List.mem_cons_self) (Int.pow_nonneg (by omega))
    omega
theorem natOf_take_succ (x : List UInt8) (i : Nat) (hi : i < x.length) : natOf (x.take (i + 1)) = 10 * natOf (x.take i) + dv (x.getD i 0) := by
  rw [List.take_add_one, List.getElem?_eq_getElem hi, Option.toList_some, natOf_snoc, List.getD, List.getElem?_eq_getElem hi]; rfl

/-! ### Multiplication: rows i, columns k of the table are added up in a row of lx + ly places -/
def rowsV (x y : List UInt8) (i k : Nat) : Int :=
  (natOf (x.take i) * 10 ^ (x.length - i) * natOf y + dv (x.getD i 0) * 10 ^ (x.length - 1 - i) * (natOf (y.take k) * 10 ^ (y.length - k)) : Nat)
theorem rowsV_start (x y : List UInt8) (i : Nat) : rowsV x y i 0 = (natOf (x.take i) * 10 ^ (x.length - i) * natOf y : Nat) := by
  unfold rowsV; rw [List.take_zero, natOf_nil, Nat.zero_mul, Nat.mul_zero, Nat.add_zero]
theorem rowsV_col (x y : List UInt8) (i k : Nat) (hi : i < x.length) (hk : k < y.length) :
    rowsV x y i (k + 1) = rowsV x y i k + (dv (x.getD i 0) * dv (y.getD k 0) : Nat) * 10 ^ (x.length + y.length - 1 - (i + k + 1)) := by
  unfold rowsV
  rw [natOf_take_succ y k hk, show x.length + y.length - 1 - (i + k + 1) = (x.length - 1 - i) + (y.length - (k + 1)) by omega, show y.length - k = (y.length - (k + 1)) + 1 by omega]
  have hpw : ∀ m : Nat, (10 : Int) ^ m = ((10 ^ m : Nat) : Int) := fun m => by rw [Int.natCast_pow]; rfl
  rw [hpw, ← Int.natCast_mul, ← Int.natCast_add]
  congr 1
  rw [Nat.pow_succ, Nat.pow_add, Nat.add_assoc]
  congr 1
  generalize dv (x.getD i 0) = a
  generalize dv (y.getD k 0) = b
  generalize natOf (y.take k) = c
  generalize 10 ^ (x.length - 1 - i) = p
  generalize 10 ^ (y.length - (k + 1)) = q
  rw [Nat.add_mul, Nat.mul_add]
  congr 1
  · rw [Nat.mul_comm 10 c, Nat.mul_assoc c 10 q, Nat.mul_comm 10 q]
  · simp only [Nat.mul_comm, Nat.mul_left_comm]
theorem rowsV_row (x y : List UInt8) (i : Nat) (hi : i < x.length) : rowsV x y i y.length = rowsV x y (i + 1) 0 := by
  rw [rowsV_start]
  unfold rowsV
  congr 1
  rw [List.take_length, Nat.sub_self, Nat.pow_zero, Nat.mul_one, natOf_take_succ x i hi, show x.length - i = (x.length - (i + 1)) + 1 by omega, show x.length - 1 - i = x.length - (i + 1) by omega, Nat.pow_succ]
  generalize natOf (x.take i) = a
  generalize dv (x.getD i 0) = b
  generalize 10 ^ (x.length - (i + 1)) = p
  rw [← Nat.add_mul]
  congr 1
  rw [Nat.add_mul]
  congr 1
  rw [Nat.mul_comm p 10, ← Nat.mul_assoc, Nat.mul_comm a 10]
theorem rowsV_end (x y : List UInt8) : rowsV x y x.length 0 = (natOf x * natOf y : Nat) := by
  rw [rowsV_start, List.take_length, Nat.sub_self, Nat.pow_zero, Nat.mul_one]
/-- A digit is carried. -/
theorem valL_carry (zs : List Int) (i : Nat) (hi : i + 1 < zs.length) :
    valL ((zs.set i (zs.getD i 0 + zs.getD (i + 1) 0 / 10)).set (i + 1) (zs.getD (i + 1) 0 % 10)) = valL zs := by
  rw [valL_set _ _ _ (by rw [List.length_set]; omega), valL_set _ _ _ (by omega), getL_set_ne _ _ _ _ _ (by omega), List.length_set]
  rw [show zs.length - 1 - i = (zs.length - 1 - (i + 1)) + 1 by omega, Int.pow_succ]
  generalize (10 : Int) ^ (zs.length - 1 - (i + 1)) = p
  generalize zs.getD i 0 = a
  generalize zs.getD (i + 1) 0 = b
  have h1 : b % 10 - b = -(10 * (b / 10)) := by omega
  rw [h1, show a + b / 10 - a = b / 10 by omega, Int.neg_mul, Int.mul_comm p 10, ← Int.mul_assoc, Int.mul_comm (b / 10) 10]
  omega

/-! ### Division -/
/-- A number without zeros in front; nothing for zero. -/
def trN (n : Nat) : List UInt8 := if n = 0 then [] else decDigits n
theorem trN_val (n : Nat) : natOf (trN n) = n := by
  unfold trN; split
  · rename_i h; rw [h]; rfl
  · exact natOf_decDigits n
theorem trN_all (n : Nat) : (trN n).all dg = true := by
  unfold trN; split
  · rfl
  · exact decDigits_all n
theorem trN_of {s : List UInt8} (h : s.all dg = true) : s.dropWhile (· == 48) = trN (natOf s) := drop_zeros s h
theorem trN_len {n k : Nat} : (trN n).length ≤ k ↔ n < 10 ^ k := by
  unfold trN; split
  · rename_i h; subst h; simp; exact Nat.pow_pos (by omega)
  · rename_i h
    cases k with
    | zero =>
      have := List.length_pos_iff.2 (decDigits_ne n)
      rw [Nat.pow_zero]
      constructor <;> intro h' <;> omega
    | succ k => exact decDigits_lt (by omega)
end Go.Dec

/-
  An assertion layer over the model's wp, part X: rows of cells that a call lays, writes and appends to.
  Conditions: none. Nothing here is about a particular program.
-/
namespace Go.AM

/-! ### Rows of integers -/
def intCells (zs : List Int) : List AVal := zs.map (AVal.int .i64)
theorem intCells_length (zs : List Int) : (intCells zs).length = zs.length := by simp [intCells]
theorem intCells_getD {zs : List Int} {i : Nat} (hi : i < zs.length) : (intCells zs).getD i .dead = .int .i64 (zs.getD i 0) := by
  simp [intCells, List.getD, hi]
theorem intCells_append (a b : List Int) : intCells (a ++ b) = intCells a ++ intCells b := by simp [intCells]
theorem setAt_intCells (zs : List Int) (i : Nat) (n : Int) : setAt (intCells zs) i [.int .i64 n] = intCells (zs.set i n) := by
  simp only [setAt, intCells, List.map_set]
theorem allLive_intCells : ∀ zs : List Int, allLive (intCells zs) = true
  | [] => rfl
  | z :: zs => by
    have := allLive_intCells zs
    simpa [intCells, allLive, AVal.live] using this

section
variable {P : Program} {w₀ : World} {ops rest : List Oper} {s : Slots} {h : AHeap} {K : Slots → AHeap → Prop} {dst : Option Tmp} {ty : TypeId} {pos : String} {af : Array Edge}
theorem aOps_storeInt {t : TypeId} {x y : Operand} {k o i f : Nat} {n : Int} {zs : List Int} {h₀ : AHeap} (hx : ev s x = .ptr (.own k) o) (hv : ev s y = .int .i64 n) (ht : szOf P t = some 1) (hh : h = h₀.set k ⟨intCells zs, f⟩) (ho : o = i)
    (hi : i < zs.length) (hf : f ≤ i) (hk : aOps P w₀ ops rest (putD s dst (.tuple [])) (h₀.set k ⟨intCells (zs.set i n), f⟩) K) :
    aOps P w₀ ops (⟨dst, .store t x y, ty, pos, af, none⟩ :: rest) s h K := by
  subst hh ho
  refine aOps_store hx hv (AHeap.set_same _ _ _) ht rfl rfl (by rw [intCells_length]; omega) hf rfl ?_
  rw [AHeap.set_set]
  simp only [AVal.cells]
  rw [setAt_intCells]
  exact hk
theorem aOps_makeInts {t e : TypeId} {x y : Operand} {n : Int} {k₁ k₂ : IntKind} (ht : P.underlying t = some (.slice e)) (hs : szOf P e = some 1) (hb : byOf P e = some 8) (hz : zeOf P e = some (.int .i64 0)) (hx : ev s x = .int k₁ n) (hy : ev s y = .int k₂ n) (h0 : 0 ≤ n) (h1 : n ≤ 35184372088832)
    (hk : ∀ k, h k = none → aOps P w₀ ops rest (putD s dst (.slice (.own k) 0 n.toNat (.exact n.toNat))) (h.set k ⟨intCells (List.replicate n.toNat 0), 0⟩) K) :
    aOps P w₀ ops (⟨dst, .makeSlice t x y, ty, pos, af, none⟩ :: rest) s h K := by
  rw [aOps_e]
  simp only [eop, eMake, hx, hy, ht, hs, hb, hz, intA]
  refine ⟨⟨h0, by omega, by omega, by omega, rfl, by omega⟩, fun k hk' => ?_⟩
  have e : repCells ((Value.int .i64 0).cells.toList.map absS) (n.toNat * 1) = intCells (List.replicate n.toNat 0) := by
    have : ((Value.int .i64 0).cells.toList.map absS) = [.int .i64 0] := rfl
    rw [this, repCells_one, Nat.mul_one]
    simp [intCells]
  rw [e]
  exact hk k hk'
end

/-! ### A slice of the call's own that grows by append -/
/-- Nil, or a row in a block of its own: es cells an element. -/
structure Buf where
  blk : Nat
  cells : List AVal
def bufV (es : Nat) : Option Buf → AVal
  | none => .nilSlice
  | some b => .slice (.own b.blk) 0 (b.cells.length / es) (.grow es)
def bufC : Option Buf → List AVal
  | none => []
  | some b => b.cells
def bufH (h : AHeap) : Option Buf → AHeap
  | none => h
  | some b => h.set b.blk ⟨b.cells, 0⟩
def bufOk (h : AHeap) (es : Nat) : Option Buf → Prop
  | none => True
  | some b => h b.blk = none ∧ b.cells.length % es = 0 ∧ allLive b.cells = true
theorem bufOk.sub {h h' : AHeap} {es : Nat} {b : Option Buf} (hb : bufOk h es b) (hs : Sub h' h) : bufOk h' es b := by
  cases b with
  | none => trivial
  | some b => exact ⟨hs.none hb.1, hb.2⟩
theorem Sub.buf {h : AHeap} {es : Nat} {b : Option Buf} (hb : bufOk h es b) : Sub h (bufH h b) := by
  cases b with
  | none => exact Sub.refl _
  | some b => exact Sub.set hb.1
theorem bufV_live (es : Nat) (b : Option Buf) : (bufV es b).live = true := by cases b <;> rfl
theorem bufV_scal (es : Nat) (b : Option Buf) : (bufV es b).scal = true := by cases b <;> rfl

/-- What an append has left of the heap. -/
theorem sub_app {h₀ h : AHeap} {kb k' : Nat} {B C : Blk} (h0 : h₀ kb = none) (hs : Sub (h₀.set kb B) h) (hk' : h k' = none) : Sub (h₀.set k' C) ((h.del kb).set k' C) := fun j c hj => by
  by_cases e : j = k'
  · subst e; rw [AHeap.set_same] at hj ⊢; exact hj
  · rw [AHeap.set_ne _ _ e] at hj ⊢
    have e2 : j ≠ kb := fun e2 => by subst e2; rw [h0] at hj; cases hj
    simp only [AHeap.del, e2, if_false]
    exact hs j c (by rw [AHeap.set_ne _ _ e2]; exact hj)

section
variable {P : Program} {w₀ : World} {ops rest : List Oper} {s : Slots} {h : AHeap} {K : Slots → AHeap → Prop} {dst : Option Tmp} {ty : TypeId} {pos : String} {af : Array Edge}
/-- Cells behind a slice of the call's own: h₀ is what else is told of the heap. -/
theorem aOps_appendBuf {ts : Array TypeId} {t u e : TypeId} {d : TypeDesc} {x y : Operand} {v : AVal} {es by' m : Nat} {z : Value} {src : List AVal} {h₀ : AHeap} {b : Option Buf}
    (h0 : ts[0]? = some t) (h1 : ts[1]? = some u) (ht : P.underlying t = some (.slice e)) (hu : P.underlying u = some d) (hd : ∀ k, d ≠ .int k)
    (hs : szOf P e = some es) (hb : byOf P e = some by') (hz : zeOf P e = some z) (hzs : z.cells.size = es) (hes : es ≠ 0)
    (hx : ev s x = bufV es b) (hok : bufOk h₀ es b) (hh : Sub (bufH h₀ b) h) (hy : ev s y = v) (hm : srcLen v = some m) (hp : srcPre w₀ h es m v) (hc : srcCells w₀ h es m v = src) (hsl : src.length = m * es) (hsc : allScal src = true) (hlv : allLive src = true)
    (hl : ((bufC b).length / es + m) * by' ≤ 140737488355328) (hl' : (bufC b).length / es + m < 4611686018427387904)
    (hk : ∀ b' h', bufOk h₀ es b' → bufC b' = bufC b ++ src → Sub (bufH h₀ b') h' → aOps P w₀ ops rest (putD s dst (bufV es b')) h' K) :
    aOps P w₀ ops (⟨dst, .call ⟨.builtin .append, [x, y].toArray, ts⟩, ty, pos, af, none⟩ :: rest) s h K := by
  rw [aOps_e]
  simp only [eop, evs, List.map_cons, List.map_nil, hx, hy, eAppend, h0, h1, ht, hu, hs, hb, hz, hm]
  have hev : 0 < es := Nat.pos_of_ne_zero hes
  cases b with
  | none =>
    refine ⟨hd, ⟨hes, hzs⟩, hp, ?_⟩
    simp only [bufV]
    simp only [bufC, List.length_nil, Nat.zero_div, Nat.zero_add] at hl hl'
    refine ⟨fun e0 => ?_, fun e0 => ⟨⟨hl, hl'⟩, fun k hk0 _ => ?_⟩⟩
    · have : src = [] := List.eq_nil_of_length_eq_zero (by rw [hsl, e0, Nat.zero_mul])
      exact hk none h trivial (by rw [this]; rfl) hh
    · have hsub : Sub (bufH h₀ (some ⟨k, src⟩)) (h.set k ⟨src, 0⟩) := Sub.set_both hh k _
      have hk0' : h₀ k = none := hh.none hk0
      have e1 : src.length / es = m := by rw [hsl]; exact Nat.mul_div_cancel _ hev
      have := hk (some ⟨k, src⟩) (h.set k ⟨src, 0⟩) ⟨hk0', by simp only; rw [hsl]; exact Nat.mul_mod_left _ _, hlv⟩ rfl hsub
      simp only [bufV, e1] at this
      rw [hc]
      exact this
  | some b =>
    obtain ⟨o1, o2, o3⟩ := hok
    simp only [bufC] at hl hl'
    have hkb : h b.blk = some ⟨b.cells, 0⟩ := hh _ _ (AHeap.set_same _ _ _)
    refine ⟨hd, ⟨hes, hzs⟩, hp, ?_⟩
    simp only [bufV, hkb]
    have hdiv : b.cells.length / es * es = b.cells.length := Nat.div_mul_cancel (Nat.dvd_of_mod_eq_zero o2)
    refine ⟨trivial, ⟨by rw [Nat.zero_add, hdiv], hl, hl', by rw [hc]; exact hsc, by rw [List.drop_zero]; exact o3, .inl trivial⟩, fun k hk0 _ => ?_⟩
    rw [hc, List.drop_zero]
    have hsub : Sub (bufH h₀ (some ⟨k, b.cells ++ src⟩)) ((h.del b.blk).set k ⟨b.cells ++ src, 0⟩) := sub_app o1 hh hk0
    have hne : k ≠ b.blk := fun e' => by subst e'; rw [hkb] at hk0; cases hk0
    have hk0' : h₀ k = none := by
      have := hh.none hk0
      rwa [show (bufH h₀ (some b)) = h₀.set b.blk ⟨b.cells, 0⟩ from rfl, AHeap.set_ne _ _ hne] at this
    have e1 : (b.cells ++ src).length / es = b.cells.length / es + m := by
      rw [List.length_append, hsl, Nat.add_mul_div_right _ _ hev]
    have e2 : (b.cells ++ src).length % es = 0 := by
      rw [List.length_append, hsl, Nat.add_mul_mod_self_right]; exact o2
    have hlive : allLive (b.cells ++ src) = true := by
      have : ∀ (a c : List AVal), allLive (a ++ c) = (allLive a && allLive c) := fun a c => by
        induction a with
        | nil => rfl
        | cons x a ih => simp [allLive, ih, Bool.and_assoc]
      rw [this, o3, hlv]; rfl
    have := hk (some ⟨k, b.cells ++ src⟩) _ ⟨hk0', e2, hlive⟩ rfl hsub
    simp only [bufV, e1] at this
    exact this
end
end Go.AM

