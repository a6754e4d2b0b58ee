/-
  Contracts: Normal, Long, is of the law's package; Check, New of the package decimals.
  Conditions: none.
-/
import Derived.Test.YthiiakghjoeikaaGreatDoorDcB
set_option linter.unusedSimpArgs false
set_option linter.unnecessarySimpa false
set_option linter.unusedVariables false
namespace Go.Proofs.YthiiakghjoeikaaGreatDoor
open Go.AM
open Go.Proofs
open Go.Dec
open Go.Lib (decDigits)
set_option maxRecDepth 100000

theorem c_Normal (w₀ : World) (h : AHeap) (neg : Bool) (s : List UInt8) (scale : Int) (hs : s.all dg = true) (hl : s.length ≤ 1073741824) (h0 : 0 ≤ scale) (h1 : scale ≤ 1073741824) :
    ACall Tryz.prog w₀ 19 [.bool neg, .str s, .int .i64 scale] h (fun v h' => v = decA (canon neg (natOf s) scale.toNat) ∧ h' = h) := by
  have hlen := natOf_lt s hs
  refine acall_intro (n := 41) (rs := [.cell 6 27]) Tryz.func19 rfl rfl rfl rfl (Nat.le_of_ble_eq_true rfl) ?_
  simp only [initSlots]
  -- region 0  law.go:28
  refine awp_rseq [0, 1, 2, 6] (by rfl) fun K hK => ?_
  refine aOps_alloc ze27 (cs := [.bool false, .str [], .int .i64 0]) (by rfl) fun k0q0 hk0q0 => ?_
  simp (decide := true) only [aOps_nil, putD, Slots.put, Slots.keep, if_true, if_false]
  repeat (with_reducible refine And.intro ?_ ?_; · first | trivial | omega | (intro hg; simp only [Bool.and_eq_true, Bool.or_eq_true, Bool.not_eq_true', Bool.and_eq_false_iff, Bool.or_eq_false_iff, Bool.not_eq_false', decide_eq_true_eq, decide_eq_false_iff_not, eqNil] at hg; omega) )
  apply hK; clear hK K
  refine awp_seq ?_
  refine awp_block ?_
  refine awp_loopG [0, 1, 2, 6] (fun t : List UInt8 => [(0, .bool neg), (1, .str t), (2, .int .i64 scale), (6, .ptr (.own k0q0) 0)]) (fun t : List UInt8 => h.set k0q0 ⟨[.bool false, .str [], .int .i64 0], 0⟩) (fun t : List UInt8 => t.dropWhile (· == 48) = s.dropWhile (· == 48) ∧ t.length ≤ s.length) (fun t : List UInt8 => t.length) s rfl (Sub.refl _) ⟨rfl, Nat.le_refl _⟩ ?_
  rintro t ⟨ht, htl⟩
  refine awp_seq ?_
  -- region 1  law.go:29
  refine awp_rseq [0, 1, 2, 6, 14] (by rfl) fun K hK => ?_
  simp (decide := true) only [aOps_nil, ev, absV, absS, putD, Slots.put, Slots.get, Slots.keep, if_true, if_false, true_and, ↓ap_move, pop_move, ↓ap_len, pop_len, pLen_str Tryz.underlying9, ↓ap_binOp, pop_binOp, isNilC_int, cond_false, pBinX_int, pI_gtr, ↓ag_move, agP, agQ_some, nthDst, gKnown_bool, guardB_bool_true, implies_true, ↓ag_index, pop_index, pIndex_str Tryz.underlying9, cv_indexl, cp_indexl, ↓ag_binOp, cv_binl, cp_binl, pI_eql, ↓ap_pick, pop_pick, pPick_bool, pickV_cond_l, pickV_and]
  repeat (with_reducible refine And.intro ?_ ?_; · first | trivial | omega | (intro hg; simp only [decide_eq_true_eq] at hg; omega) )
  apply hK; clear hK K
  refine awp_cond (b := _) rfl (fun hb1 => ?_) (fun hb1 => ?_)
  · try simp only [decide_eq_true_eq, Bool.and_eq_true] at hb1
    refine awp_skip ?_
    change Awp _ _ _ _ _ _ _
    refine awp_block ?_
    -- region 2  law.go:30
    refine awp_r [0, 1, 2, 6] (by rfl) ?_
    simp (decide := true) only [aOps_nil, ev, absV, absS, putD, Slots.put, Slots.get, Slots.keep, if_true, if_false, true_and, ↓ap_move, pop_move, ↓ap_slice, pop_slice, evO, pSliceS_i0 Tryz.underlying9, pSliceS, bndA_none, bndA_int, ↓ap_assign, pop_assign]
    repeat (with_reducible refine And.intro ?_ ?_; · first | trivial | omega | (intro hg; simp only [Bool.and_eq_true, Bool.or_eq_true, Bool.not_eq_true', Bool.and_eq_false_iff, Bool.or_eq_false_iff, Bool.not_eq_false', decide_eq_true_eq, decide_eq_false_iff_not, eqNil] at hg; omega) )
    try simp only [thenA_normal, inBlockA_normal]
    have e := drop_one t (by omega)
    refine ⟨t.drop 1, ?_, Sub.refl _, ⟨?_, by simp; omega⟩, by simp; omega⟩
    · rw [show Int.toNat 1 = 1 from rfl, sub_left t _ rfl]; rfl
    · rw [← ht]
      conv => rhs; rw [e]
      have hz : t.getD 0 0 = 48 := UInt8.toNat_inj.1 (by have := hb1.2; rw [Int.toNat_zero] at this; have e48 : (48 : UInt8).toNat = 48 := rfl; omega)
      rw [List.dropWhile_cons, if_pos (by rw [hz]; rfl)]
  · try simp only [decide_eq_false_iff_not, Bool.and_eq_false_iff] at hb1
    have ht2 : t = if natOf s = 0 then [] else decDigits (natOf s) := by
      rw [← drop_zeros s hs, ← ht]
      rcases Nat.eq_zero_or_pos t.length with e | e
      · rw [List.eq_nil_of_length_eq_zero e]; rfl
      · have e1 := drop_one t e
        rw [e1, List.dropWhile_cons, if_neg]
        intro e2
        have e3 : t.getD 0 0 = 48 := by simpa using e2
        rw [Int.toNat_zero] at hb1
        rcases hb1 with hb1 | hb1
        · omega
        · rw [e3] at hb1; exact hb1 rfl
    subst ht2
    refine awp_exit ?_
    change Awp _ _ _ _ _ _ _
    refine awp_seq ?_
    -- region 3  law.go:32
    refine awp_rseq [0, 1, 2, 6, 18] (by rfl) fun K hK => ?_
    simp (decide := true) only [aOps_nil, ev, absV, absS, putD, Slots.put, Slots.get, Slots.keep, if_true, if_false, true_and, ↓ap_move, pop_move, ↓ap_binOp, pop_binOp, isNilC_str, cond_false, pBinX_str, pS_eql]
    repeat (with_reducible refine And.intro ?_ ?_; · first | trivial | omega | (intro hg; simp only [Bool.and_eq_true, Bool.or_eq_true, Bool.not_eq_true', Bool.and_eq_false_iff, Bool.or_eq_false_iff, Bool.not_eq_false', decide_eq_true_eq, decide_eq_false_iff_not, eqNil] at hg; omega) )
    apply hK; clear hK K
    refine awp_cond (b := _) rfl (fun hb2 => ?_) (fun hb2 => ?_)
    · try simp only [decide_eq_true_eq] at hb2
      -- region 4  law.go:33
      refine awp_rseq [6] (by rfl) fun K hK => ?_
      simp (decide := true) only [ev, absV, absS, putD, Slots.put, Slots.get, if_false, true_and, ↓ap_build, ↓pop_buildL, bld27_1, evP, List.map_cons, List.map_nil]
      repeat (with_reducible refine And.intro ?_ ?_; · first | trivial | omega | (intro hg; simp only [Bool.and_eq_true, Bool.or_eq_true, Bool.not_eq_true', Bool.and_eq_false_iff, Bool.or_eq_false_iff, Bool.not_eq_false', decide_eq_true_eq, decide_eq_false_iff_not, eqNil] at hg; omega) )
      refine aOps_store (by rfl) (by rfl) (AHeap.set_same _ _ _) sz27 (by rfl) (by rfl) (by first | exact Nat.le_refl _ | decide | (simp; done) | (simp; omega)) (Nat.zero_le _) (by rfl) ?_
      simp only [AHeap.set_set, AVal.cells]
      simp (decide := true) only [aOps_nil, ev, putD, Slots.get, Slots.keep, if_true, if_false]
      repeat (with_reducible refine And.intro ?_ ?_; · first | trivial | omega | (intro hg; simp only [Bool.and_eq_true, Bool.or_eq_true, Bool.not_eq_true', Bool.and_eq_false_iff, Bool.or_eq_false_iff, Bool.not_eq_false', decide_eq_true_eq, decide_eq_false_iff_not, eqNil] at hg; omega) )
      apply hK; clear hK K
      refine awp_ret ?_
      try simp only [thenA_ret]
      refine retA_ret h (Sub.set hk0q0) (?_) ?_
      · simp (decide := true) only [resPre, resV_cell, Slots.get, if_true, and_true, resV_cell, pLoad_agg ag27 sz27, rd_set, cellsAt, List.getD_cons_zero, List.getD_cons_succ, Nat.zero_add, Nat.reduceAdd, setAt, List.set_cons_zero, List.set_cons_succ, lv_bool, lv_int, lv_str, allLive, Bool.and_true]
      
      simp (decide := true) only [Slots.get, if_true, and_true, resOfG_one, resV_cell, pLoad_agg ag27 sz27, rd_set, cellsAt, List.getD_cons_zero, List.getD_cons_succ, Nat.zero_add, Nat.reduceAdd, setAt, List.set_cons_zero, List.set_cons_succ, lv_bool, lv_int, lv_str, allLive, Bool.and_true]
      have hn : natOf s = 0 := by
        by_cases hn : natOf s = 0
        · exact hn
        · rw [if_neg hn] at hb2; exact absurd hb2 (decDigits_ne _)
      rw [hn, canon, if_pos rfl]; rfl
    · try simp only [decide_eq_false_iff_not] at hb2
      have hn : natOf s ≠ 0 := fun hn => hb2 (by rw [if_pos hn])
      simp only [if_neg hn]
      have hml0 : (decDigits (natOf s)).length ≤ s.length := by
        rcases Nat.eq_zero_or_pos s.length with e | e
        · rw [List.eq_nil_of_length_eq_zero e] at hn; exact absurd rfl hn
        · exact (decDigits_lt e).2 hlen
      refine awp_skip ?_
      change Awp _ _ _ _ _ _ _
      refine awp_seq ?_
      refine awp_block ?_
      refine awp_loopG [0, 1, 2, 6] (fun g : Nat × Int => [(0, .bool neg), (1, .str (decDigits g.1)), (2, .int .i64 g.2), (6, .ptr (.own k0q0) 0)]) (fun g : Nat × Int => h.set k0q0 ⟨[.bool false, .str [], .int .i64 0], 0⟩) (fun g : Nat × Int => g.1 ≠ 0 ∧ g.2 ≤ scale ∧ 0 ≤ g.2 ∧ strip g.1 g.2.toNat = strip (natOf s) scale.toNat ∧ (decDigits g.1).length ≤ s.length) (fun g : Nat × Int => g.2.toNat) (natOf s, scale) (by rfl) (Sub.refl _) ⟨by omega, Int.le_refl _, h0, rfl, hml0⟩ ?_
      rintro ⟨m, sc⟩ ⟨hm, hsc, hpos, hst, hml⟩
      simp only at hm hsc hpos hst hml
      have hl1 : 0 < (decDigits m).length := List.length_pos_iff.2 (decDigits_ne m)
      have hlast : (((decDigits m).getD (((decDigits m).length : Int) - 1).toNat 0).toNat : Int) = 48 ↔ m % 10 = 0 := by
        rw [show (((decDigits m).length : Int) - 1).toNat = (decDigits m).length - 1 by omega]
        exact decDigits_last m
      refine awp_seq ?_
      -- region 5  law.go:35
      refine awp_rseq [0, 1, 2, 6, 29] (by rfl) fun K hK => ?_
      simp (decide := true) only [aOps_nil, ev, absV, absS, putD, Slots.put, Slots.get, Slots.keep, if_true, if_false, true_and, ↓ap_move, pop_move, ↓ap_binOp, pop_binOp, isNilC_int, cond_false, pBinX_int, pI_gtr, ↓ag_move, agP, agQ_some, nthDst, gKnown_bool, guardB_bool_true, implies_true, ↓ag_len, pop_len, pLen_str Tryz.underlying9, cv_len, cp_len, ↓ag_binOp, cv_binl, cp_binl, pI_sub, ↓ag_index, pop_index, pIndex_str Tryz.underlying9, cv_indexl, cv_indexr, cp_indexl, cp_indexr, pI_eql, ↓ap_pick, pop_pick, pPick_bool, pickV_cond_l, pickV_and]
      try simp (disch := omega) only [wrap_i64]
      repeat (with_reducible refine And.intro ?_ ?_; · first | trivial | omega | (intro hg; simp only [Bool.and_eq_true, Bool.or_eq_true, Bool.not_eq_true', Bool.and_eq_false_iff, Bool.or_eq_false_iff, Bool.not_eq_false', decide_eq_true_eq, decide_eq_false_iff_not, eqNil] at hg; omega) )
      apply hK; clear hK K
      refine awp_cond (b := _) rfl (fun hb3 => ?_) (fun hb3 => ?_)
      · try simp only [decide_eq_true_eq, Bool.and_eq_true] at hb3
        refine awp_skip ?_
        change Awp _ _ _ _ _ _ _
        refine awp_block ?_
        -- region 6  law.go:36
        refine awp_rseq [0, 1, 2, 6] (by rfl) fun K hK => ?_
        simp (decide := true) only [ev, absV, absS, putD, Slots.put, Slots.get, if_true, if_false, true_and, ↓ap_move, pop_move, ↓ap_len, pop_len, pLen_str Tryz.underlying9, ↓ap_binOp, pop_binOp, isNilC_int, cond_false, pBinX_int, pI_sub]
        try simp (disch := omega) only [wrap_i64]
        try simp (decide := true) only [aOps_nil, ev, putD, Slots.put, Slots.get, Slots.keep, if_true, if_false, true_and, ↓ap_slice, pop_slice, evO, pSliceS_0i Tryz.underlying9, pSliceS, bndA_none, bndA_int, ↓ap_assign, pop_assign]
        repeat (with_reducible refine And.intro ?_ ?_; · first | trivial | omega | (intro hg; simp only [Bool.and_eq_true, Bool.or_eq_true, Bool.not_eq_true', Bool.and_eq_false_iff, Bool.or_eq_false_iff, Bool.not_eq_false', decide_eq_true_eq, decide_eq_false_iff_not, eqNil] at hg; omega) )
        apply hK; clear hK K
        -- region 7  law.go:37
        refine awp_r [0, 1, 2, 6] (by rfl) ?_
        simp (decide := true) only [aOps_nil, ev, absV, absS, putD, Slots.put, Slots.get, Slots.keep, if_true, if_false, true_and, ↓ap_move, pop_move, ↓ap_binOp, pop_binOp, isNilC_int, cond_false, pBinX_int, pI_sub, ↓ap_assign, pop_assign]
        try simp (disch := omega) only [wrap_i64]
        repeat (with_reducible refine And.intro ?_ ?_; · first | trivial | omega | (intro hg; simp only [Bool.and_eq_true, Bool.or_eq_true, Bool.not_eq_true', Bool.and_eq_false_iff, Bool.or_eq_false_iff, Bool.not_eq_false', decide_eq_true_eq, decide_eq_false_iff_not, eqNil] at hg; omega) )
        try simp only [thenA_normal, inBlockA_normal]
        have hm0 : m % 10 = 0 := hlast.1 hb3.2
        have hm10 : ¬ m < 10 := by omega
        refine ⟨(m / 10, sc - 1), ?_, Sub.refl _, ⟨by simp only; omega, by simp only; omega, by simp only; omega, ?_, ?_⟩, by simp only; omega⟩
        · have e0 : ((decDigits m).length - 1 : Int).toNat = (decDigits m).length - 1 := by omega
          rw [e0]; simp only [Int.toNat_natCast, List.drop_zero, Nat.sub_zero]
          rw [decDigits_init hm10]; rfl
        · rw [← hst, show sc.toNat = (sc - 1).toNat + 1 by omega, strip, if_pos hm0]
        · simp only
          rw [← decDigits_init hm10]
          simp; omega
      · try simp only [decide_eq_false_iff_not, Bool.and_eq_false_iff] at hb3
        refine awp_exit ?_
        change Awp _ _ _ _ _ _ _
        -- region 8  law.go:39
        refine awp_rseq [6] (by rfl) fun K hK => ?_
        simp (decide := true) only [ev, absV, absS, putD, Slots.put, Slots.get, if_true, if_false, true_and, ↓ap_move, pop_move, ↓ap_build, ↓pop_buildL, bld27_0_1_2, evP, List.map_cons, List.map_nil]
        repeat (with_reducible refine And.intro ?_ ?_; · first | trivial | omega | (intro hg; simp only [Bool.and_eq_true, Bool.or_eq_true, Bool.not_eq_true', Bool.and_eq_false_iff, Bool.or_eq_false_iff, Bool.not_eq_false', decide_eq_true_eq, decide_eq_false_iff_not, eqNil] at hg; omega) )
        refine aOps_store (by rfl) (by rfl) (AHeap.set_same _ _ _) sz27 (by rfl) (by rfl) (by first | exact Nat.le_refl _ | decide | (simp; done) | (simp; omega)) (Nat.zero_le _) (by rfl) ?_
        simp only [AHeap.set_set, AVal.cells]
        simp (decide := true) only [aOps_nil, ev, putD, Slots.get, Slots.keep, if_true, if_false]
        repeat (with_reducible refine And.intro ?_ ?_; · first | trivial | omega | (intro hg; simp only [Bool.and_eq_true, Bool.or_eq_true, Bool.not_eq_true', Bool.and_eq_false_iff, Bool.or_eq_false_iff, Bool.not_eq_false', decide_eq_true_eq, decide_eq_false_iff_not, eqNil] at hg; omega) )
        apply hK; clear hK K
        refine awp_ret ?_
        try simp only [thenA_ret, inBlockA_ret]
        refine retA_ret h (Sub.set hk0q0) (?_) ?_
        · simp (decide := true) only [resPre, resV_cell, Slots.get, if_true, and_true, resV_cell, pLoad_agg ag27 sz27, rd_set, cellsAt, List.getD_cons_zero, List.getD_cons_succ, Nat.zero_add, Nat.reduceAdd, setAt, List.set_cons_zero, List.set_cons_succ, lv_bool, lv_int, lv_str, allLive, Bool.and_true]
        
        simp (decide := true) only [Slots.get, if_true, and_true, resOfG_one, resV_cell, pLoad_agg ag27 sz27, rd_set, cellsAt, List.getD_cons_zero, List.getD_cons_succ, Nat.zero_add, Nat.reduceAdd, setAt, List.set_cons_zero, List.set_cons_succ, lv_bool, lv_int, lv_str, allLive, Bool.and_true]
        have hex : sc.toNat = 0 ∨ m % 10 ≠ 0 := by
          rcases hb3 with hb3 | hb3
          · omega
          · exact .inr fun e => hb3 (hlast.2 e)
        rw [canon, if_neg hn, ← hst, strip_done hex]
        simp only [decA]
        rw [Int.toNat_of_nonneg hpos]
end Go.Proofs.YthiiakghjoeikaaGreatDoor
