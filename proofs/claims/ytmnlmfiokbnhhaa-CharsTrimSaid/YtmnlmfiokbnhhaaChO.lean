/-
  The walk of the law CharsTrim.
  Conditions: none.
-/
import Derived.Test.YtmnlmfiokbnhhaaChN
set_option linter.unusedSimpArgs false
set_option linter.unusedVariables false
namespace Go.Proofs.Ytmnlmfiokbnhhaa
open Go.AM
open Go.Proofs
set_option maxRecDepth 100000

theorem trimN_spaces (bs : List UInt8) : ∀ n j, trimN bs n ≤ j → j < n → bs.getD j 0 = 32
  | 0, _, _, h => by omega
  | n + 1, j, h, h' => by
    simp only [trimN] at h
    split at h
    · rename_i e
      rcases Nat.lt_or_ge j n with hj | hj
      · exact trimN_spaces bs n j h hj
      · have : j = n := by omega
        subst this; exact e
    · omega
theorem ext_getD (a b : List UInt8) (hl : a.length = b.length) (h : ∀ i, i < a.length → a.getD i 0 = b.getD i 0) : a = b := by
  apply List.ext_getElem hl
  intro i h1 h2
  have := h i h1
  simpa [List.getD, List.getElem?_eq_getElem h1, List.getElem?_eq_getElem h2] using this
theorem fit_trim (bs : List UInt8) : fitB (bs.take (trimN bs bs.length)) bs.length false = bs := by
  have hl := trimN_le bs bs.length
  refine ext_getD _ _ (fitB_length _ _ _) fun i hi => ?_
  rw [fitB_length] at hi
  rw [fitB_right _ _ _ hi]
  by_cases h : i < trimN bs bs.length
  · rw [if_pos (by simp; omega), getD_take _ _ _ h]
  · rw [if_neg (by simp; omega), trimN_spaces bs _ i (by omega) hi]

theorem l_CharsTrim (w₀ : World) (h : AHeap) (v : AVal) (bs : List UInt8) (hb : IsB w₀ h v bs) (hl : bs.length ≤ 9223372036854775807) (hc : ∃ cap, v = .nilSlice ∨ ∃ l o, v = .slice l o bs.length (.exact cap)) :
    ACall Try.prog w₀ 7 [v] h (fun x _ => x = .bool true) := by
  refine acall_intro (n := 73) (rs := [.tmp 2]) Try.func7 rfl rfl rfl rfl (Nat.le_of_ble_eq_true rfl) ?_
  simp only [initSlots]
  -- region 0  law.go:172
  refine awp_rseq [0] (by rfl) fun K hK => ?_
  simp (decide := true) only [aOps_nil, ev, absV, absS, putD, Slots.put, Slots.get, Slots.keep, if_true, if_false, List.contains_cons, List.contains_nil, true_and, and_true, ↓ap_assign, pop_assign, hb.len Try.underlying25, hb.apI Try.underlying25 sz5, hb.agI Try.underlying25 sz5, hb.apLd ag5, hb.agLd ag5, hb.eqnil Try.underlying25, hb.nenil Try.underlying25, hb.conv Try.underlying25 Try.underlying9 Try.underlying5]
  repeat (with_reducible refine And.intro ?_ ?_; · first | trivial | omega | (intro hg; simp only [Bool.and_eq_true, Bool.or_eq_true, Bool.not_eq_true', Bool.and_eq_false_iff, Bool.or_eq_false_iff, Bool.not_eq_false', decide_eq_true_eq, decide_eq_false_iff_not, eqNil] at hg; omega))
  apply hK; clear hK K
  refine awp_seq ?_
  -- region 1  law.go:173
  refine awp_rseq [0, 11] (by rfl) fun K hK => ?_
  simp (decide := true) only [aOps_nil, ev, absV, absS, putD, Slots.put, Slots.get, Slots.keep, if_true, if_false, List.contains_cons, List.contains_nil, true_and, and_true, ↓ap_move, pop_move, ↓ap_len, pop_len, pLen_slice Try.underlying25, pLen_nil Try.underlying25, ↓ap_binOp, pop_binOp, pBinX_int, pI_gtr, hb.len Try.underlying25, hb.apI Try.underlying25 sz5, hb.agI Try.underlying25 sz5, hb.apLd ag5, hb.agLd ag5, hb.eqnil Try.underlying25, hb.nenil Try.underlying25, hb.conv Try.underlying25 Try.underlying9 Try.underlying5]
  repeat (with_reducible refine And.intro ?_ ?_; · first | trivial | omega | (intro hg; simp only [Bool.and_eq_true, Bool.or_eq_true, Bool.not_eq_true', Bool.and_eq_false_iff, Bool.or_eq_false_iff, Bool.not_eq_false', decide_eq_true_eq, decide_eq_false_iff_not, eqNil] at hg; omega))
  apply hK; clear hK K
  refine awp_cond (b := _) rfl (fun hb1 => ?_) (fun hb1 => ?_)
  · try simp only [decide_eq_true_eq, decide_eq_false_iff_not, Bool.not_eq_true', Bool.not_eq_false', Bool.and_eq_true, Bool.and_eq_false_iff, Bool.or_eq_true, Bool.or_eq_false_iff, Bool.true_eq, Bool.false_eq, reduceCtorEq] at hb1
    -- region 2  law.go:174
    refine awp_rseq [2] (by rfl) fun K hK => ?_
    refine aOps_callV (V := .bool true) (by rfl) (by rfl) (c_lives w₀ _) ?_
    simp (decide := true) only [aOps_nil, ev, absV, absS, putD, Slots.put, Slots.get, Slots.keep, if_true, if_false, List.contains_cons, List.contains_nil, true_and, and_true, ↓ap_assign, pop_assign, hb.len Try.underlying25, hb.apI Try.underlying25 sz5, hb.agI Try.underlying25 sz5, hb.apLd ag5, hb.agLd ag5, hb.eqnil Try.underlying25, hb.nenil Try.underlying25, hb.conv Try.underlying25 Try.underlying9 Try.underlying5]
    repeat (with_reducible refine And.intro ?_ ?_; · first | trivial | omega | (intro hg; simp only [Bool.and_eq_true, Bool.or_eq_true, Bool.not_eq_true', Bool.and_eq_false_iff, Bool.or_eq_false_iff, Bool.not_eq_false', decide_eq_true_eq, decide_eq_false_iff_not, eqNil] at hg; omega))
    apply hK; clear hK K
    refine awp_ret ?_
    try simp only [thenA_ret, inBlockA_ret]
    refine retA_ret _ (Sub.refl _) (resPre_tmp (resPre_nil)) ?_
    simp (decide := true) only [aOps_nil, ev, absV, absS, putD, Slots.put, Slots.get, Slots.keep, if_true, if_false, List.contains_cons, List.contains_nil, true_and, and_true, resOf_one, hb.len Try.underlying25, hb.apI Try.underlying25 sz5, hb.agI Try.underlying25 sz5, hb.apLd ag5, hb.agLd ag5, hb.eqnil Try.underlying25, hb.nenil Try.underlying25, hb.conv Try.underlying25 Try.underlying9 Try.underlying5]
    all_goals first | rfl | exact ⟨rfl, rfl⟩ | (simp (decide := true) only [if_true, if_false, *]; done) | (trace_state; fail)
  · try simp only [decide_eq_true_eq, decide_eq_false_iff_not, Bool.not_eq_true', Bool.not_eq_false', Bool.and_eq_true, Bool.and_eq_false_iff, Bool.or_eq_true, Bool.or_eq_false_iff, Bool.true_eq, Bool.false_eq, reduceCtorEq] at hb1
    refine awp_skip ?_
    change Awp _ _ _ _ _ _ _
    -- region 3  law.go:176
    refine awp_rseq [0, 3] (by rfl) fun K hK => ?_
    simp (decide := true) only [aOps_nil, ev, absV, absS, putD, Slots.put, Slots.get, Slots.keep, if_true, if_false, List.contains_cons, List.contains_nil, true_and, and_true, ↓ap_move, pop_move, ↓ap_len, pop_len, pLen_slice Try.underlying25, pLen_nil Try.underlying25, ↓ap_assign, pop_assign, hb.len Try.underlying25, hb.apI Try.underlying25 sz5, hb.agI Try.underlying25 sz5, hb.apLd ag5, hb.agLd ag5, hb.eqnil Try.underlying25, hb.nenil Try.underlying25, hb.conv Try.underlying25 Try.underlying9 Try.underlying5]
    repeat (with_reducible refine And.intro ?_ ?_; · first | trivial | omega | (intro hg; simp only [Bool.and_eq_true, Bool.or_eq_true, Bool.not_eq_true', Bool.and_eq_false_iff, Bool.or_eq_false_iff, Bool.not_eq_false', decide_eq_true_eq, decide_eq_false_iff_not, eqNil] at hg; omega))
    apply hK; clear hK K
    refine awp_seq ?_
    refine awp_block ?_
    refine awp_loopG [0, 3] (fun n : Nat => [(0, v), (3, .int .i64 n)]) (fun n : Nat => h) (fun n : Nat => n ≤ bs.length ∧ trimN bs bs.length = trimN bs n) (fun n : Nat => n) bs.length rfl (Sub.refl _) ⟨Nat.le_refl _, rfl⟩ ?_
    rintro n ⟨hn1, hn2⟩
    refine awp_seq ?_
    -- region 4  law.go:177
    refine awp_rseq [0, 3, 24] (by rfl) fun K hK => ?_
    simp (decide := true) only [aOps_nil, ev, absV, absS, putD, Slots.put, Slots.get, Slots.keep, if_true, if_false, List.contains_cons, List.contains_nil, true_and, and_true, ↓ap_move, pop_move, ↓ap_binOp, pop_binOp, pBinX_int, pI_gtr, ↓ag_move, agP, agQ_some, gv, nthDst, gKnown_bool, gKnown_cond, guardB_cond, guardB_bool_true, guardB_bool_false, cv_cv, implies_true, Bool.not_not, decide_true, decide_false, Bool.not_false, Bool.not_true, condV_true, condV_false, forall_const, Bool.and_true, Bool.and_false, Bool.true_and, Bool.false_and, Bool.or_true, Bool.or_false, Bool.true_or, Bool.false_or, ↓ag_binOp, cv_binl, cv_binr, cp_binl, cp_binr, pI_sub, ↓ag_indexAddrL, apL_mk, agQL_some, agL_mk, agL_il1, agL_il2, agL_il3, agL_il4, agL_ir1, agL_ir2, agL_ir3, agL_ir4, pIndexAddr_slice Try.underlying25 sz5, cv_iaddrl, cv_iaddrr, cp_iaddrl, cp_iaddrr, ↓ag_loadL, agL_ld1, agL_ld2, agL_ld3, agL_ld4, pLoad_one ag5, cv_load, cp_load, pI_eql, ↓ap_pick, pop_pick, pPick_bool, pickV_cond_l, pickV_cond_r, pickV_cond_rn, cp_nest1, cp_nest2, cp_nest3, cp_nest4, pickV_and, pickV_or, hb.len Try.underlying25, hb.apI Try.underlying25 sz5, hb.agI Try.underlying25 sz5, hb.apLd ag5, hb.agLd ag5, hb.eqnil Try.underlying25, hb.nenil Try.underlying25, hb.conv Try.underlying25 Try.underlying9 Try.underlying5]
    try simp (disch := omega) only [wrap_i64, wrap_u8]
    repeat (with_reducible refine And.intro ?_ ?_; · first | trivial | omega | (intro hg; simp only [Bool.and_eq_true, Bool.or_eq_true, Bool.not_eq_true', Bool.and_eq_false_iff, Bool.or_eq_false_iff, Bool.not_eq_false', decide_eq_true_eq, decide_eq_false_iff_not, eqNil] at hg; omega))
    apply hK; clear hK K
    refine awp_cond (b := _) rfl (fun hb2 => ?_) (fun hb2 => ?_)
    · try simp only [decide_eq_true_eq, decide_eq_false_iff_not, Bool.not_eq_true', Bool.not_eq_false', Bool.and_eq_true, Bool.and_eq_false_iff, Bool.or_eq_true, Bool.or_eq_false_iff, Bool.true_eq, Bool.false_eq, reduceCtorEq] at hb2
      refine awp_skip ?_
      change Awp _ _ _ _ _ _ _
      refine awp_block ?_
      -- region 5  law.go:178
      refine awp_r [0, 3] (by rfl) ?_
      simp (decide := true) only [aOps_nil, ev, absV, absS, putD, Slots.put, Slots.get, Slots.keep, if_true, if_false, List.contains_cons, List.contains_nil, true_and, and_true, ↓ap_move, pop_move, ↓ap_binOp, pop_binOp, pBinX_int, pI_sub, ↓ap_assign, pop_assign, hb.len Try.underlying25, hb.apI Try.underlying25 sz5, hb.agI Try.underlying25 sz5, hb.apLd ag5, hb.agLd ag5, hb.eqnil Try.underlying25, hb.nenil Try.underlying25, hb.conv Try.underlying25 Try.underlying9 Try.underlying5]
      try simp (disch := omega) only [wrap_i64, wrap_u8]
      repeat (with_reducible refine And.intro ?_ ?_; · first | trivial | omega | (intro hg; simp only [Bool.and_eq_true, Bool.or_eq_true, Bool.not_eq_true', Bool.and_eq_false_iff, Bool.or_eq_false_iff, Bool.not_eq_false', decide_eq_true_eq, decide_eq_false_iff_not, eqNil] at hg; omega))
      try simp only [thenA_normal, inBlockA_normal]
      refine ⟨n - 1, ?_, Sub.refl _, ⟨by omega, ?_⟩, by omega⟩
      · have e : (n : Int) - 1 = ((n - 1 : Nat) : Int) := by omega
        rw [e]; rfl
      · rw [hn2, trimN_space bs n hb2.1 (by have := hb2.2; have e : ((n : Int) - 1).toNat = n - 1 := by omega
                                            rw [e] at this; exact this)]
    · try simp only [decide_eq_true_eq, decide_eq_false_iff_not, Bool.not_eq_true', Bool.not_eq_false', Bool.and_eq_true, Bool.and_eq_false_iff, Bool.or_eq_true, Bool.or_eq_false_iff, Bool.true_eq, Bool.false_eq, reduceCtorEq] at hb2
      have hn3 : trimN bs bs.length = n := by
        rw [hn2]
        refine trimN_stop bs n fun hn => ?_
        rcases hb2 with hb2 | hb2
        · omega
        · have e : ((n : Int) - 1).toNat = n - 1 := by omega
          rw [e] at hb2; exact hb2
      refine awp_exit ?_
      change Awp _ _ _ _ _ _ _
      -- region 6  law.go:180
      refine awp_rseq [0, 3, 4] (by rfl) fun K hK => ?_
      simp (decide := true) only [aOps_nil, ev, absV, absS, putD, Slots.put, Slots.get, Slots.keep, if_true, if_false, List.contains_cons, List.contains_nil, true_and, and_true, ↓ap_move, pop_move, ↓ap_convert _ _ _ (es_str Try.underlying25 Try.underlying9), pop_convert, pConv_nil Try.underlying25 Try.underlying9 Try.underlying5, pConv_bytes Try.underlying25 Try.underlying9 Try.underlying5, ↓ap_assign, pop_assign, hb.len Try.underlying25, hb.apI Try.underlying25 sz5, hb.agI Try.underlying25 sz5, hb.apLd ag5, hb.agLd ag5, hb.eqnil Try.underlying25, hb.nenil Try.underlying25, hb.conv Try.underlying25 Try.underlying9 Try.underlying5]
      try simp (disch := omega) only [wrap_i64, wrap_u8]
      repeat (with_reducible refine And.intro ?_ ?_; · first | trivial | omega | (intro hg; simp only [Bool.and_eq_true, Bool.or_eq_true, Bool.not_eq_true', Bool.and_eq_false_iff, Bool.or_eq_false_iff, Bool.not_eq_false', decide_eq_true_eq, decide_eq_false_iff_not, eqNil] at hg; omega))
      apply hK; clear hK K
      -- region 7  law.go:181
      refine awp_rseq [0, 3, 4, 5] (by rfl) fun K hK => ?_
      simp (decide := true) only [aOps_nil, ev, absV, absS, putD, Slots.put, Slots.get, Slots.keep, if_true, if_false, List.contains_cons, List.contains_nil, true_and, and_true, ↓ap_move, pop_move, hb.len Try.underlying25, hb.apI Try.underlying25 sz5, hb.agI Try.underlying25 sz5, hb.apLd ag5, hb.agLd ag5, hb.eqnil Try.underlying25, hb.nenil Try.underlying25, hb.conv Try.underlying25 Try.underlying9 Try.underlying5]
      repeat (with_reducible refine And.intro ?_ ?_; · first | trivial | omega | (intro hg; simp only [Bool.and_eq_true, Bool.or_eq_true, Bool.not_eq_true', Bool.and_eq_false_iff, Bool.or_eq_false_iff, Bool.not_eq_false', decide_eq_true_eq, decide_eq_false_iff_not, eqNil] at hg; omega))
      refine aOps_call (by rfl) (by rfl) (c_trim w₀ _ _ bs hb (by omega)) fun x7q1 h7q1 hx7q1 => ?_
      rw [hn3] at hx7q1
      have hG := hx7q1.isB (w₀ := w₀)
      have hB1 := hb.mono hx7q1.sub
      simp (decide := true) only [aOps_nil, ev, absV, absS, putD, Slots.put, Slots.get, Slots.keep, if_true, if_false, List.contains_cons, List.contains_nil, true_and, and_true, ↓ap_assign, pop_assign, hb.len Try.underlying25, hb.apI Try.underlying25 sz5, hb.agI Try.underlying25 sz5, hb.apLd ag5, hb.agLd ag5, hb.eqnil Try.underlying25, hb.nenil Try.underlying25, hb.conv Try.underlying25 Try.underlying9 Try.underlying5]
      repeat (with_reducible refine And.intro ?_ ?_; · first | trivial | omega | (intro hg; simp only [Bool.and_eq_true, Bool.or_eq_true, Bool.not_eq_true', Bool.and_eq_false_iff, Bool.or_eq_false_iff, Bool.not_eq_false', decide_eq_true_eq, decide_eq_false_iff_not, eqNil] at hg; omega))
      apply hK; clear hK K
      refine awp_seq ?_
      -- region 8  law.go:182
      refine awp_rseq [0, 4, 5, 36] (by rfl) fun K hK => ?_
      simp (decide := true) only [aOps_nil, ev, absV, absS, putD, Slots.put, Slots.get, Slots.keep, if_true, if_false, List.contains_cons, List.contains_nil, true_and, and_true, ↓ap_move, pop_move, ↓ap_slice, pop_slice, evO, pSliceS_str Try.underlying9, pSliceS, bndA_none, bndA_int, hB1.len Try.underlying25, hB1.apI Try.underlying25 sz5, hB1.agI Try.underlying25 sz5, hB1.apLd ag5, hB1.agLd ag5, hB1.eqnil Try.underlying25, hB1.nenil Try.underlying25, hB1.conv Try.underlying25 Try.underlying9 Try.underlying5, hG.len Try.underlying25, hG.apI Try.underlying25 sz5, hG.agI Try.underlying25 sz5, hG.apLd ag5, hG.agLd ag5, hG.eqnil Try.underlying25, hG.nenil Try.underlying25, hG.conv Try.underlying25 Try.underlying9 Try.underlying5, Int.toNat_zero, Int.toNat_natCast, List.drop_zero, Nat.sub_zero]
      repeat (with_reducible refine And.intro ?_ ?_; · first | trivial | omega | (intro hg; simp only [Bool.and_eq_true, Bool.or_eq_true, Bool.not_eq_true', Bool.and_eq_false_iff, Bool.or_eq_false_iff, Bool.not_eq_false', decide_eq_true_eq, decide_eq_false_iff_not, eqNil] at hg; omega))
      refine aOps_callV (V := .int .i64 0) (by rfl) (by rfl) ((c_bytes w₀ _ _ (bs.take n) (bs.take n) hG (hx7q1.cap Try.underlying25)).val (by rw [if_pos rfl])) ?_
      simp (decide := true) only [aOps_nil, ev, absV, absS, putD, Slots.put, Slots.get, Slots.keep, if_true, if_false, List.contains_cons, List.contains_nil, true_and, and_true, ↓ap_binOp, pop_binOp, pBinX_int, pI_neq, hB1.len Try.underlying25, hB1.apI Try.underlying25 sz5, hB1.agI Try.underlying25 sz5, hB1.apLd ag5, hB1.agLd ag5, hB1.eqnil Try.underlying25, hB1.nenil Try.underlying25, hB1.conv Try.underlying25 Try.underlying9 Try.underlying5, hG.len Try.underlying25, hG.apI Try.underlying25 sz5, hG.agI Try.underlying25 sz5, hG.apLd ag5, hG.agLd ag5, hG.eqnil Try.underlying25, hG.nenil Try.underlying25, hG.conv Try.underlying25 Try.underlying9 Try.underlying5, Int.toNat_zero, Int.toNat_natCast, List.drop_zero, Nat.sub_zero]
      repeat (with_reducible refine And.intro ?_ ?_; · first | trivial | omega | (intro hg; simp only [Bool.and_eq_true, Bool.or_eq_true, Bool.not_eq_true', Bool.and_eq_false_iff, Bool.or_eq_false_iff, Bool.not_eq_false', decide_eq_true_eq, decide_eq_false_iff_not, eqNil] at hg; omega))
      apply hK; clear hK K
      refine awp_cond (b := _) rfl (fun hb3 => ?_) (fun hb3 => ?_)
      · simp at hb3
      · try simp only [decide_eq_true_eq, decide_eq_false_iff_not, Bool.not_eq_true', Bool.not_eq_false', Bool.and_eq_true, Bool.and_eq_false_iff, Bool.or_eq_true, Bool.or_eq_false_iff, Bool.true_eq, Bool.false_eq, reduceCtorEq] at hb3
        refine awp_skip ?_
        change Awp _ _ _ _ _ _ _
        -- region 10  law.go:185
        refine awp_rseq [0, 4, 5, 6, 7] (by rfl) fun K hK => ?_
        simp (decide := true) only [aOps_nil, ev, absV, absS, putD, Slots.put, Slots.get, Slots.keep, if_true, if_false, List.contains_cons, List.contains_nil, true_and, and_true, ↓ap_move, pop_move, ↓ap_len, pop_len, pLen_slice Try.underlying25, pLen_nil Try.underlying25, hB1.len Try.underlying25, hB1.apI Try.underlying25 sz5, hB1.agI Try.underlying25 sz5, hB1.apLd ag5, hB1.agLd ag5, hB1.eqnil Try.underlying25, hB1.nenil Try.underlying25, hB1.conv Try.underlying25 Try.underlying9 Try.underlying5, hG.len Try.underlying25, hG.apI Try.underlying25 sz5, hG.agI Try.underlying25 sz5, hG.apLd ag5, hG.agLd ag5, hG.eqnil Try.underlying25, hG.nenil Try.underlying25, hG.conv Try.underlying25 Try.underlying9 Try.underlying5]
        repeat (with_reducible refine And.intro ?_ ?_; · first | trivial | omega | (intro hg; simp only [Bool.and_eq_true, Bool.or_eq_true, Bool.not_eq_true', Bool.and_eq_false_iff, Bool.or_eq_false_iff, Bool.not_eq_false', decide_eq_true_eq, decide_eq_false_iff_not, eqNil] at hg; omega))
        refine aOps_call (by rfl) (by rfl) (c_fitOk w₀ _ _ (bs.take n) bs.length false hG (by simp; omega) (by omega) (by omega)) fun x10q3 h10q3 hx10q3 => ?_
        obtain ⟨k, hk, rfl, rfl⟩ := hx10q3
        have hT : (bs.take n).length = n := by simp; omega
        have hF : fitB (bs.take n) bs.length false = bs := by have := fit_trim bs; rw [hn3] at this; exact this
        rw [Int.toNat_natCast, hF]
        have hS := Sub.set (b := ⟨byteCells bs, 0⟩) hk
        simp (decide := true) only [aOps_nil, ev, absV, absS, putD, Slots.put, Slots.get, Slots.keep, if_true, if_false, List.contains_cons, List.contains_nil, true_and, and_true, ↓ap_move, pop_move, ↓ap_extract, pop_extract, pExt_tuple, List.length_cons, List.length_nil, List.getD_cons_zero, List.getD_cons_succ, ↓ap_assign, pop_assign, hB1.len Try.underlying25, hB1.apI Try.underlying25 sz5, hB1.agI Try.underlying25 sz5, hB1.apLd ag5, hB1.agLd ag5, hB1.eqnil Try.underlying25, hB1.nenil Try.underlying25, hB1.conv Try.underlying25 Try.underlying9 Try.underlying5, hG.len Try.underlying25, hG.apI Try.underlying25 sz5, hG.agI Try.underlying25 sz5, hG.apLd ag5, hG.agLd ag5, hG.eqnil Try.underlying25, hG.nenil Try.underlying25, hG.conv Try.underlying25 Try.underlying9 Try.underlying5]
        repeat (with_reducible refine And.intro ?_ ?_; · first | trivial | omega | (intro hg; simp only [Bool.and_eq_true, Bool.or_eq_true, Bool.not_eq_true', Bool.and_eq_false_iff, Bool.or_eq_false_iff, Bool.not_eq_false', decide_eq_true_eq, decide_eq_false_iff_not, eqNil] at hg; omega))
        apply hK; clear hK K
        refine awp_seq ?_
        -- region 11  law.go:186
        refine awp_rseq [0, 4, 5, 6, 7, 8] (by rfl) fun K hK => ?_
        simp (decide := true) only [aOps_nil, ev, absV, absS, putD, Slots.put, Slots.get, Slots.keep, if_true, if_false, List.contains_cons, List.contains_nil, true_and, and_true, ↓ap_assign, pop_assign, hB1.len Try.underlying25, hB1.apI Try.underlying25 sz5, hB1.agI Try.underlying25 sz5, hB1.apLd ag5, hB1.agLd ag5, hB1.eqnil Try.underlying25, hB1.nenil Try.underlying25, hB1.conv Try.underlying25 Try.underlying9 Try.underlying5, hG.len Try.underlying25, hG.apI Try.underlying25 sz5, hG.agI Try.underlying25 sz5, hG.apLd ag5, hG.agLd ag5, hG.eqnil Try.underlying25, hG.nenil Try.underlying25, hG.conv Try.underlying25 Try.underlying9 Try.underlying5]
        repeat (with_reducible refine And.intro ?_ ?_; · first | trivial | omega | (intro hg; simp only [Bool.and_eq_true, Bool.or_eq_true, Bool.not_eq_true', Bool.and_eq_false_iff, Bool.or_eq_false_iff, Bool.not_eq_false', decide_eq_true_eq, decide_eq_false_iff_not, eqNil] at hg; omega))
        apply hK; clear hK K
        refine awp_block ?_
        refine awp_loopG [0, 4, 5, 6, 7, 8] (fun i : Nat => [(0, v), (4, .str bs), (5, x7q1), (6, .slice (.own k) 0 bs.length (.exact bs.length)), (7, .int .i64 0), (8, .int .i64 i)]) (fun i : Nat => updB x7q1 (h7q1.set k ⟨byteCells bs, 0⟩) (mapTo incU (bs.take n) i)) (fun i : Nat => i ≤ n) (fun i : Nat => n - i) 0 rfl (hx7q1.upd hS).2 (Nat.zero_le _) ?_
        rintro i hi1
        have hM := mapTo_length incU (bs.take n) i
        have hG := hx7q1.updIs (w₀ := w₀) (h2 := h7q1.set k ⟨byteCells bs, 0⟩) (T' := mapTo incU (bs.take n) i) hM
        have hB2 := hb.mono (hx7q1.updSub (T' := mapTo incU (bs.take n) i) hS)
        refine awp_seq ?_
        -- region 12  law.go:186
        refine awp_rseq [0, 4, 5, 6, 7, 8, 47] (by rfl) fun K hK => ?_
        simp (decide := true) only [aOps_nil, ev, absV, absS, putD, Slots.put, Slots.get, Slots.keep, if_true, if_false, List.contains_cons, List.contains_nil, true_and, and_true, ↓ap_move, pop_move, ↓ap_len, pop_len, pLen_slice Try.underlying25, pLen_nil Try.underlying25, ↓ap_binOp, pop_binOp, pBinX_int, pI_lss, hB2.len Try.underlying25, hB2.apI Try.underlying25 sz5, hB2.agI Try.underlying25 sz5, hB2.apLd ag5, hB2.agLd ag5, hB2.eqnil Try.underlying25, hB2.nenil Try.underlying25, hB2.conv Try.underlying25 Try.underlying9 Try.underlying5, hG.len Try.underlying25, hG.apI Try.underlying25 sz5, hG.agI Try.underlying25 sz5, hG.apLd ag5, hG.agLd ag5, hG.eqnil Try.underlying25, hG.nenil Try.underlying25, hG.conv Try.underlying25 Try.underlying9 Try.underlying5]
        repeat (with_reducible refine And.intro ?_ ?_; · first | trivial | omega | (intro hg; simp only [Bool.and_eq_true, Bool.or_eq_true, Bool.not_eq_true', Bool.and_eq_false_iff, Bool.or_eq_false_iff, Bool.not_eq_false', decide_eq_true_eq, decide_eq_false_iff_not, eqNil] at hg; omega))
        apply hK; clear hK K
        refine awp_cond (b := _) rfl (fun hb4 => ?_) (fun hb4 => ?_)
        · try simp only [decide_eq_true_eq, decide_eq_false_iff_not, Bool.not_eq_true', Bool.not_eq_false', Bool.and_eq_true, Bool.and_eq_false_iff, Bool.or_eq_true, Bool.or_eq_false_iff, Bool.true_eq, Bool.false_eq, reduceCtorEq] at hb4
          refine awp_skip ?_
          change Awp _ _ _ _ _ _ _
          refine awp_seq ?_
          refine awp_block ?_
          -- region 14  law.go:187
          refine awp_r [0, 4, 5, 6, 7, 8] (by rfl) ?_
          simp (decide := true) only [aOps_nil, ev, absV, absS, putD, Slots.put, Slots.get, Slots.keep, if_true, if_false, List.contains_cons, List.contains_nil, true_and, and_true, ↓ap_move, pop_move, ↓ap_indexAddrL, apL_mk, pIndexAddr_slice Try.underlying25 sz5, ↓ap_loadL, pLoad_one ag5, ↓ap_binOp, pop_binOp, pBinX_int, pI_add, hB2.len Try.underlying25, hB2.apI Try.underlying25 sz5, hB2.agI Try.underlying25 sz5, hB2.apLd ag5, hB2.agLd ag5, hB2.eqnil Try.underlying25, hB2.nenil Try.underlying25, hB2.conv Try.underlying25 Try.underlying9 Try.underlying5, hG.len Try.underlying25, hG.apI Try.underlying25 sz5, hG.agI Try.underlying25 sz5, hG.apLd ag5, hG.agLd ag5, hG.eqnil Try.underlying25, hG.nenil Try.underlying25, hG.conv Try.underlying25 Try.underlying9 Try.underlying5, Int.toNat_natCast, mapTo_get incU (bs.take n) i (by omega)]
          try simp (disch := omega) only [wrap_i64, wrap_u8]
          try simp (decide := true) only [aOps_nil, ev, absV, absS, putD, Slots.put, Slots.get, Slots.keep, if_true, if_false, List.contains_cons, List.contains_nil, true_and, and_true, ↓ap_indexAddrL, apL_mk, pIndexAddr_slice Try.underlying25 sz5, hB2.len Try.underlying25, hB2.apI Try.underlying25 sz5, hB2.agI Try.underlying25 sz5, hB2.apLd ag5, hB2.agLd ag5, hB2.eqnil Try.underlying25, hB2.nenil Try.underlying25, hB2.conv Try.underlying25 Try.underlying9 Try.underlying5, hG.len Try.underlying25, hG.apI Try.underlying25 sz5, hG.agI Try.underlying25 sz5, hG.apLd ag5, hG.agLd ag5, hG.eqnil Try.underlying25, hG.nenil Try.underlying25, hG.conv Try.underlying25 Try.underlying9 Try.underlying5, Int.toNat_natCast, mapTo_get incU (bs.take n) i (by omega)]
          repeat (with_reducible refine And.intro ?_ ?_; · first | trivial | omega | (intro hg; simp only [Bool.and_eq_true, Bool.or_eq_true, Bool.not_eq_true', Bool.and_eq_false_iff, Bool.or_eq_false_iff, Bool.not_eq_false', decide_eq_true_eq, decide_eq_false_iff_not, eqNil] at hg; omega))
          have hw := incU_bounds ((bs.take n).getD i 0)
          refine aOps_storeQ hx7q1 (i := i) (by rfl) hM (by rfl) sz5 hM rfl (by omega) (by first | exact hw.1 | omega) (by first | exact hw.2 | omega) ?_
          simp (decide := true) only [aOps_nil, ev, absV, absS, putD, Slots.put, Slots.get, Slots.keep, if_true, if_false, List.contains_cons, List.contains_nil, true_and, and_true, hB2.len Try.underlying25, hB2.apI Try.underlying25 sz5, hB2.agI Try.underlying25 sz5, hB2.apLd ag5, hB2.agLd ag5, hB2.eqnil Try.underlying25, hB2.nenil Try.underlying25, hB2.conv Try.underlying25 Try.underlying9 Try.underlying5, hG.len Try.underlying25, hG.apI Try.underlying25 sz5, hG.agI Try.underlying25 sz5, hG.apLd ag5, hG.agLd ag5, hG.eqnil Try.underlying25, hG.nenil Try.underlying25, hG.conv Try.underlying25 Try.underlying9 Try.underlying5, Int.toNat_natCast, mapTo_get incU (bs.take n) i (by omega)]
          repeat (with_reducible refine And.intro ?_ ?_; · first | trivial | omega | (intro hg; simp only [Bool.and_eq_true, Bool.or_eq_true, Bool.not_eq_true', Bool.and_eq_false_iff, Bool.or_eq_false_iff, Bool.not_eq_false', decide_eq_true_eq, decide_eq_false_iff_not, eqNil] at hg; omega))
          change Awp _ _ _ _ _ _ _
          -- region 13  law.go:186
          refine awp_r [0, 4, 5, 6, 7, 8] (by rfl) ?_
          simp (decide := true) only [aOps_nil, ev, absV, absS, putD, Slots.put, Slots.get, Slots.keep, if_true, if_false, List.contains_cons, List.contains_nil, true_and, and_true, ↓ap_move, pop_move, ↓ap_binOp, pop_binOp, pBinX_int, pI_add, ↓ap_assign, pop_assign, hB2.len Try.underlying25, hB2.apI Try.underlying25 sz5, hB2.agI Try.underlying25 sz5, hB2.apLd ag5, hB2.agLd ag5, hB2.eqnil Try.underlying25, hB2.nenil Try.underlying25, hB2.conv Try.underlying25 Try.underlying9 Try.underlying5, hG.len Try.underlying25, hG.apI Try.underlying25 sz5, hG.agI Try.underlying25 sz5, hG.apLd ag5, hG.agLd ag5, hG.eqnil Try.underlying25, hG.nenil Try.underlying25, hG.conv Try.underlying25 Try.underlying9 Try.underlying5]
          try simp (disch := omega) only [wrap_i64, wrap_u8]
          repeat (with_reducible refine And.intro ?_ ?_; · first | trivial | omega | (intro hg; simp only [Bool.and_eq_true, Bool.or_eq_true, Bool.not_eq_true', Bool.and_eq_false_iff, Bool.or_eq_false_iff, Bool.not_eq_false', decide_eq_true_eq, decide_eq_false_iff_not, eqNil] at hg; omega))
          try simp only [thenA_normal, inBlockA_normal]
          refine ⟨i + 1, rfl, ?_, by omega, by omega⟩
          rw [← mapTo_succ incU _ i (by omega)]
          exact Sub.refl _
        · try simp only [decide_eq_true_eq, decide_eq_false_iff_not, Bool.not_eq_true', Bool.not_eq_false', Bool.and_eq_true, Bool.and_eq_false_iff, Bool.or_eq_true, Bool.or_eq_false_iff, Bool.true_eq, Bool.false_eq, reduceCtorEq] at hb4
          refine awp_exit ?_
          change Awp _ _ _ _ _ _ _
          -- region 15  law.go:189
          refine awp_rseq [2] (by rfl) fun K hK => ?_
          simp (decide := true) only [aOps_nil, ev, absV, absS, putD, Slots.put, Slots.get, Slots.keep, if_true, if_false, List.contains_cons, List.contains_nil, true_and, and_true, ↓ap_move, pop_move, ↓ap_binOp, pop_binOp, pBinX_int, pI_eql, ↓ag_move, agP, agQ_some, gv, nthDst, gKnown_bool, gKnown_cond, guardB_cond, guardB_bool_true, guardB_bool_false, cv_cv, implies_true, Bool.not_not, decide_true, decide_false, Bool.not_false, Bool.not_true, condV_true, condV_false, forall_const, Bool.and_true, Bool.and_false, Bool.true_and, Bool.false_and, Bool.or_true, Bool.or_false, Bool.true_or, Bool.false_or, hB2.len Try.underlying25, hB2.apI Try.underlying25 sz5, hB2.agI Try.underlying25 sz5, hB2.apLd ag5, hB2.agLd ag5, hB2.eqnil Try.underlying25, hB2.nenil Try.underlying25, hB2.conv Try.underlying25 Try.underlying9 Try.underlying5, hG.len Try.underlying25, hG.apI Try.underlying25 sz5, hG.agI Try.underlying25 sz5, hG.apLd ag5, hG.agLd ag5, hG.eqnil Try.underlying25, hG.nenil Try.underlying25, hG.conv Try.underlying25 Try.underlying9 Try.underlying5]
          repeat (with_reducible refine And.intro ?_ ?_; · first | trivial | omega | (intro hg; simp only [Bool.and_eq_true, Bool.or_eq_true, Bool.not_eq_true', Bool.and_eq_false_iff, Bool.or_eq_false_iff, Bool.not_eq_false', decide_eq_true_eq, decide_eq_false_iff_not, eqNil] at hg; omega))
          first
          | (refine aOps_yes (by rfl) ?_; refine aOps_callV (V := .int .i64 0) (by rfl) (by rfl) ((c_bytes w₀ _ _ bs bs (IsB.own (hx7q1.updOther hk (AHeap.set_same _ _ _)) rfl (Nat.le_refl _)) (pCap_slice Try.underlying25 _ _ _ _)).val (by rw [if_pos rfl])) ?_)
          | (refine aOps_gcall (V := .int .i64 0) (f := _) (cap := _) (xs := _) rfl (fun hg => ⟨rfl, ?_⟩) (fun hg => (c_bytes w₀ _ _ bs bs (IsB.own (hx7q1.updOther hk (AHeap.set_same _ _ _)) rfl (Nat.le_refl _)) (pCap_slice Try.underlying25 _ _ _ _)).val (by rw [if_pos rfl])) ?_; · (simp (decide := true) only [gv, nthDst, Slots.get, if_true, if_false, guardB_bool_true, guardB_bool_false, guardB_cond, Bool.not_not] at hg; simp (decide := true) only [evs, ev, Slots.get, if_true, if_false, hg, condV_true, List.append_nil, List.map_cons, List.map_nil]))
          simp (decide := true) only [aOps_nil, ev, absV, absS, putD, Slots.put, Slots.get, Slots.keep, if_true, if_false, List.contains_cons, List.contains_nil, true_and, and_true, gv, nthDst, guardB_bool_true, guardB_bool_false, guardB_cond, ↓ag_binOp, pop_binOp, agP, agQ_some, gKnown_bool, gKnown_cond, cv_cv, implies_true, Bool.not_not, decide_true, decide_false, Bool.not_false, Bool.not_true, condV_true, condV_false, forall_const, Bool.and_true, Bool.and_false, Bool.true_and, Bool.false_and, Bool.or_true, Bool.or_false, Bool.true_or, Bool.false_or, cv_binl, cv_binr, cp_binl, cp_binr, pBinX_int, pI_eql, ↓ap_pick, pop_pick, pPick_bool, pickV_cond_l, pickV_cond_r, pickV_cond_rn, cp_nest1, cp_nest2, cp_nest3, cp_nest4, pickV_and, pickV_or, ↓ap_move, pop_move, ↓ag_move, ↓ag_convert _ _ _ (es_str Try.underlying25 Try.underlying9), pop_convert, pConv_nil Try.underlying25 Try.underlying9 Try.underlying5, pConv_bytes Try.underlying25 Try.underlying9 Try.underlying5, cv_conv, cp_conv, pBinX_str, pS_eql, hB2.len Try.underlying25, hB2.apI Try.underlying25 sz5, hB2.agI Try.underlying25 sz5, hB2.apLd ag5, hB2.agLd ag5, hB2.eqnil Try.underlying25, hB2.nenil Try.underlying25, hB2.conv Try.underlying25 Try.underlying9 Try.underlying5, hG.len Try.underlying25, hG.apI Try.underlying25 sz5, hG.agI Try.underlying25 sz5, hG.apLd ag5, hG.agLd ag5, hG.eqnil Try.underlying25, hG.nenil Try.underlying25, hG.conv Try.underlying25 Try.underlying9 Try.underlying5]
          try simp (disch := omega) only [wrap_i64, wrap_u8]
          repeat (with_reducible refine And.intro ?_ ?_; · first | trivial | omega | (intro hg; simp only [Bool.and_eq_true, Bool.or_eq_true, Bool.not_eq_true', Bool.and_eq_false_iff, Bool.or_eq_false_iff, Bool.not_eq_false', decide_eq_true_eq, decide_eq_false_iff_not, eqNil] at hg; omega))
          first
          | (refine aOps_yes (by rfl) ?_; refine aOps_callV (V := .bool true) (by rfl) (by rfl) (c_lives w₀ _) ?_)
          | (refine aOps_gcall (V := .bool true) (f := _) (cap := _) (xs := _) rfl (fun hg => ⟨rfl, ?_⟩) (fun hg => c_lives w₀ _) ?_; · (simp (decide := true) only [gv, nthDst, Slots.get, if_true, if_false, guardB_bool_true, guardB_bool_false, guardB_cond, Bool.not_not] at hg; simp (decide := true) only [evs, ev, Slots.get, if_true, if_false, hg, condV_true, List.append_nil, List.map_cons, List.map_nil]))
          simp (decide := true) only [aOps_nil, ev, absV, absS, putD, Slots.put, Slots.get, Slots.keep, if_true, if_false, List.contains_cons, List.contains_nil, true_and, and_true, gv, nthDst, guardB_bool_true, guardB_bool_false, guardB_cond, ↓ap_pick, pop_pick, pPick_bool, pickV_cond_l, pickV_cond_r, pickV_cond_rn, cp_nest1, cp_nest2, cp_nest3, cp_nest4, pickV_and, pickV_or, ↓ap_assign, pop_assign, hB2.len Try.underlying25, hB2.apI Try.underlying25 sz5, hB2.agI Try.underlying25 sz5, hB2.apLd ag5, hB2.agLd ag5, hB2.eqnil Try.underlying25, hB2.nenil Try.underlying25, hB2.conv Try.underlying25 Try.underlying9 Try.underlying5, hG.len Try.underlying25, hG.apI Try.underlying25 sz5, hG.agI Try.underlying25 sz5, hG.apLd ag5, hG.agLd ag5, hG.eqnil Try.underlying25, hG.nenil Try.underlying25, hG.conv Try.underlying25 Try.underlying9 Try.underlying5]
          repeat (with_reducible refine And.intro ?_ ?_; · first | trivial | omega | (intro hg; simp only [Bool.and_eq_true, Bool.or_eq_true, Bool.not_eq_true', Bool.and_eq_false_iff, Bool.or_eq_false_iff, Bool.not_eq_false', decide_eq_true_eq, decide_eq_false_iff_not, eqNil] at hg; omega))
          apply hK; clear hK K
          refine awp_ret ?_
          try simp only [thenA_ret, inBlockA_ret]
          refine retA_ret _ (Sub.refl _) (resPre_tmp (resPre_nil)) ?_
          simp (decide := true) only [aOps_nil, ev, absV, absS, putD, Slots.put, Slots.get, Slots.keep, if_true, if_false, List.contains_cons, List.contains_nil, true_and, and_true, resOf_one, hB2.len Try.underlying25, hB2.apI Try.underlying25 sz5, hB2.agI Try.underlying25 sz5, hB2.apLd ag5, hB2.agLd ag5, hB2.eqnil Try.underlying25, hB2.nenil Try.underlying25, hB2.conv Try.underlying25 Try.underlying9 Try.underlying5, hG.len Try.underlying25, hG.apI Try.underlying25 sz5, hG.agI Try.underlying25 sz5, hG.apLd ag5, hG.agLd ag5, hG.eqnil Try.underlying25, hG.nenil Try.underlying25, hG.conv Try.underlying25 Try.underlying9 Try.underlying5]
          all_goals first | rfl | exact ⟨rfl, rfl⟩ | (simp (decide := true) only [if_true, if_false, *]; done) | (trace_state; fail)
end Go.Proofs.Ytmnlmfiokbnhhaa
