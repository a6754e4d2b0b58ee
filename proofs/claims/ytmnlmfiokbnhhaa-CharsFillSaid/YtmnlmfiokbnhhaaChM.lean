/-
  The walk of the law CharsFill.
  Conditions: none.
-/
import Derived.Test.YtmnlmfiokbnhhaaChK
set_option linter.unusedSimpArgs false
set_option linter.unusedVariables false
namespace Go.Proofs.Ytmnlmfiokbnhhaa
open Go.AM
open Go.Proofs
set_option maxRecDepth 100000

def fillE (bs : List UInt8) (n : Int) : Int := if n < 0 then 1 else if 1048576 < n then 3 else if 0 < n ∧ bs.length = 0 then 5 else 0
def fillR (bs : List UInt8) (n : Int) : List UInt8 := if fillE bs n = 0 then fillB bs n.toNat else []

theorem c_fillX (w₀ : World) (h : AHeap) (v : AVal) (bs : List UInt8) (n : Int) (hb : IsB w₀ h v bs) :
    ACall Try.prog w₀ 16 [v, .int .i64 n] h (fun x h' => ∃ got, x = .tuple [got, .int .i64 (fillE bs n)] ∧ FreshB h (fillR bs n) got h') := by
  refine (c_fill w₀ h v bs n hb).mono fun x h' hx => ?_
  rcases hx with ⟨e, rfl, rfl⟩ | ⟨e, rfl, rfl⟩ | ⟨e, e', rfl, rfl, rfl⟩ | ⟨e, e', e2, k, hk, rfl, rfl⟩
  · have : fillE bs n = 1 := by rw [fillE, if_pos e]
    exact ⟨_, by rw [this], .inl ⟨by rw [fillR, this]; rfl, rfl, rfl⟩⟩
  · have : fillE bs n = 3 := by rw [fillE, if_neg (by omega), if_pos e]
    exact ⟨_, by rw [this], .inl ⟨by rw [fillR, this]; rfl, rfl, rfl⟩⟩
  · have : fillE [] n = 5 := by rw [fillE, if_neg (by omega), if_neg (by omega), if_pos ⟨e, rfl⟩]
    exact ⟨_, by rw [this], .inl ⟨by rw [fillR, this]; rfl, rfl, rfl⟩⟩
  · have : fillE bs n = 0 := by
      rw [fillE, if_neg (by omega), if_neg (by omega), if_neg]
      rintro ⟨h1, h2⟩
      have := e2 (List.eq_nil_of_length_eq_zero h2)
      omega
    have hr : fillR bs n = fillB bs n.toNat := by rw [fillR, if_pos this]
    have hl : (fillB bs n.toNat).length = n.toNat := fillTo_length _ _ _
    exact ⟨_, by rw [this], .inr ⟨k, hk, by rw [hr, hl], by rw [hr]⟩⟩

theorem fillR_facts (bs : List UInt8) (n : Int) : (fillE bs n ≠ 0 ∧ (fillR bs n).length = 0) ∨ (fillE bs n = 0 ∧ fillR bs n = fillB bs n.toNat ∧ ((fillR bs n).length : Int) = n ∧ (0 < n → bs.length ≠ 0)) := by
  by_cases h : fillE bs n = 0
  · have e : fillR bs n = fillB bs n.toNat := by rw [fillR, if_pos h]
    have hl : (fillB bs n.toNat).length = n.toNat := fillTo_length _ _ _
    refine .inr ⟨h, e, ?_, ?_⟩
    · rw [e, hl]
      simp only [fillE] at h
      split at h
      · cases h
      · omega
    · intro h0 h1
      rw [fillE] at h
      split at h
      · cases h
      · split at h
        · cases h
        · rw [if_pos ⟨h0, h1⟩] at h; cases h
  · exact .inl ⟨h, by rw [fillR, if_neg h]; rfl⟩

theorem fillB_get (bs : List UInt8) (n i : Nat) (hi : i < n) : (fillB bs n).getD i 0 = bs.getD (i % bs.length) 0 := by
  simp [fillB, fillTo, List.getD, hi]

theorem l_CharsFill (w₀ : World) (h : AHeap) (v : AVal) (bs : List UInt8) (hb : IsB w₀ h v bs) (hl : bs.length ≤ 9223372036854775807) (hc : ∃ cap, v = .nilSlice ∨ ∃ l o, v = .slice l o bs.length (.exact cap))
    (n : Int) (h0 : -9223372036854775808 ≤ n) (h1 : n ≤ 9223372036854775807) : ACall Try.prog w₀ 5 [v, .int .i64 n] h (fun x _ => x = .bool true) := by
  refine acall_intro (n := 94) (rs := [.tmp 4]) Try.func5 rfl rfl rfl rfl (Nat.le_of_ble_eq_true rfl) ?_
  simp only [initSlots]
  -- region 0  law.go:113
  refine awp_rseq [0, 1] (by rfl) fun K hK => ?_
  simp (decide := true) only [aOps_nil, ev, absV, absS, putD, Slots.put, Slots.get, Slots.keep, if_true, if_false, List.contains_cons, List.contains_nil, true_and, and_true, ↓ap_assign, pop_assign, hb.len Try.underlying25, hb.apI Try.underlying25 sz5, hb.agI Try.underlying25 sz5, hb.apLd ag5, hb.agLd ag5, hb.eqnil Try.underlying25, hb.nenil Try.underlying25, hb.conv Try.underlying25 Try.underlying9 Try.underlying5]
  repeat (with_reducible refine And.intro ?_ ?_; · first | trivial | omega | (intro hg; simp only [Bool.and_eq_true, Bool.or_eq_true, Bool.not_eq_true', Bool.and_eq_false_iff, Bool.or_eq_false_iff, Bool.not_eq_false', decide_eq_true_eq, decide_eq_false_iff_not, eqNil] at hg; omega))
  apply hK; clear hK K
  refine awp_seq ?_
  -- region 1  law.go:114
  refine awp_rseq [0, 1, 20] (by rfl) fun K hK => ?_
  simp (decide := true) only [aOps_nil, ev, absV, absS, putD, Slots.put, Slots.get, Slots.keep, if_true, if_false, List.contains_cons, List.contains_nil, true_and, and_true, ↓ap_move, pop_move, ↓ap_len, pop_len, pLen_slice Try.underlying25, pLen_nil Try.underlying25, ↓ap_binOp, pop_binOp, pBinX_int, pI_gtr, ↓ag_move, agP, agQ_some, gv, nthDst, gKnown_bool, gKnown_cond, guardB_cond, guardB_bool_true, guardB_bool_false, cv_cv, implies_true, Bool.not_not, decide_true, decide_false, Bool.not_false, Bool.not_true, condV_true, condV_false, forall_const, Bool.and_true, Bool.and_false, Bool.true_and, Bool.false_and, Bool.or_true, Bool.or_false, Bool.true_or, Bool.false_or, ↓ag_binOp, cv_binl, cv_binr, cp_binl, cp_binr, pI_leq, ↓ag_pick, pop_pick, pPick_bool, pickV_cond_l, pickV_cond_r, pickV_cond_rn, cp_nest1, cp_nest2, cp_nest3, cp_nest4, pickV_and, pickV_or, cv_pick, cp_pick, ↓ap_pick, hb.len Try.underlying25, hb.apI Try.underlying25 sz5, hb.agI Try.underlying25 sz5, hb.apLd ag5, hb.agLd ag5, hb.eqnil Try.underlying25, hb.nenil Try.underlying25, hb.conv Try.underlying25 Try.underlying9 Try.underlying5]
  repeat (with_reducible refine And.intro ?_ ?_; · first | trivial | omega | (intro hg; simp only [Bool.and_eq_true, Bool.or_eq_true, Bool.not_eq_true', Bool.and_eq_false_iff, Bool.or_eq_false_iff, Bool.not_eq_false', decide_eq_true_eq, decide_eq_false_iff_not, eqNil] at hg; omega))
  apply hK; clear hK K
  refine awp_cond (b := _) rfl (fun hb1 => ?_) (fun hb1 => ?_)
  · try simp only [decide_eq_true_eq, decide_eq_false_iff_not, Bool.not_eq_true', Bool.not_eq_false', Bool.and_eq_true, Bool.and_eq_false_iff, Bool.or_eq_true, Bool.or_eq_false_iff, Bool.true_eq, Bool.false_eq, reduceCtorEq] at hb1
    -- region 2  law.go:115
    refine awp_rseq [4] (by rfl) fun K hK => ?_
    refine aOps_callV (V := .bool true) (by rfl) (by rfl) (c_lives w₀ _) ?_
    simp (decide := true) only [aOps_nil, ev, absV, absS, putD, Slots.put, Slots.get, Slots.keep, if_true, if_false, List.contains_cons, List.contains_nil, true_and, and_true, ↓ap_assign, pop_assign, hb.len Try.underlying25, hb.apI Try.underlying25 sz5, hb.agI Try.underlying25 sz5, hb.apLd ag5, hb.agLd ag5, hb.eqnil Try.underlying25, hb.nenil Try.underlying25, hb.conv Try.underlying25 Try.underlying9 Try.underlying5]
    repeat (with_reducible refine And.intro ?_ ?_; · first | trivial | omega | (intro hg; simp only [Bool.and_eq_true, Bool.or_eq_true, Bool.not_eq_true', Bool.and_eq_false_iff, Bool.or_eq_false_iff, Bool.not_eq_false', decide_eq_true_eq, decide_eq_false_iff_not, eqNil] at hg; omega))
    apply hK; clear hK K
    refine awp_ret ?_
    try simp only [thenA_ret, inBlockA_ret]
    refine retA_ret _ (Sub.refl _) (resPre_tmp (resPre_nil)) ?_
    simp (decide := true) only [aOps_nil, ev, absV, absS, putD, Slots.put, Slots.get, Slots.keep, if_true, if_false, List.contains_cons, List.contains_nil, true_and, and_true, resOf_one, hb.len Try.underlying25, hb.apI Try.underlying25 sz5, hb.agI Try.underlying25 sz5, hb.apLd ag5, hb.agLd ag5, hb.eqnil Try.underlying25, hb.nenil Try.underlying25, hb.conv Try.underlying25 Try.underlying9 Try.underlying5]
    all_goals first | rfl | exact ⟨rfl, rfl⟩ | (simp (decide := true) only [if_true, if_false, *]; done) | (trace_state; fail)
  · try simp only [decide_eq_true_eq, decide_eq_false_iff_not, Bool.not_eq_true', Bool.not_eq_false', Bool.and_eq_true, Bool.and_eq_false_iff, Bool.or_eq_true, Bool.or_eq_false_iff, Bool.true_eq, Bool.false_eq, reduceCtorEq] at hb1
    refine awp_skip ?_
    change Awp _ _ _ _ _ _ _
    -- region 3  law.go:117
    refine awp_rseq [0, 1, 5] (by rfl) fun K hK => ?_
    simp (decide := true) only [aOps_nil, ev, absV, absS, putD, Slots.put, Slots.get, Slots.keep, if_true, if_false, List.contains_cons, List.contains_nil, true_and, and_true, ↓ap_move, pop_move, ↓ap_convert _ _ _ (es_str Try.underlying25 Try.underlying9), pop_convert, pConv_nil Try.underlying25 Try.underlying9 Try.underlying5, pConv_bytes Try.underlying25 Try.underlying9 Try.underlying5, ↓ap_assign, pop_assign, hb.len Try.underlying25, hb.apI Try.underlying25 sz5, hb.agI Try.underlying25 sz5, hb.apLd ag5, hb.agLd ag5, hb.eqnil Try.underlying25, hb.nenil Try.underlying25, hb.conv Try.underlying25 Try.underlying9 Try.underlying5]
    try simp (disch := omega) only [wrap_i64, wrap_u8]
    repeat (with_reducible refine And.intro ?_ ?_; · first | trivial | omega | (intro hg; simp only [Bool.and_eq_true, Bool.or_eq_true, Bool.not_eq_true', Bool.and_eq_false_iff, Bool.or_eq_false_iff, Bool.not_eq_false', decide_eq_true_eq, decide_eq_false_iff_not, eqNil] at hg; omega))
    apply hK; clear hK K
    -- region 4  law.go:118
    refine awp_rseq [0, 1, 5, 6, 7] (by rfl) fun K hK => ?_
    simp (decide := true) only [aOps_nil, ev, absV, absS, putD, Slots.put, Slots.get, Slots.keep, if_true, if_false, List.contains_cons, List.contains_nil, true_and, and_true, ↓ap_move, pop_move, hb.len Try.underlying25, hb.apI Try.underlying25 sz5, hb.agI Try.underlying25 sz5, hb.apLd ag5, hb.agLd ag5, hb.eqnil Try.underlying25, hb.nenil Try.underlying25, hb.conv Try.underlying25 Try.underlying9 Try.underlying5]
    repeat (with_reducible refine And.intro ?_ ?_; · first | trivial | omega | (intro hg; simp only [Bool.and_eq_true, Bool.or_eq_true, Bool.not_eq_true', Bool.and_eq_false_iff, Bool.or_eq_false_iff, Bool.not_eq_false', decide_eq_true_eq, decide_eq_false_iff_not, eqNil] at hg; omega))
    refine aOps_call (by rfl) (by rfl) (c_fillX w₀ _ _ _ n hb) fun x4q2 h4q2 hx4q2 => ?_
    obtain ⟨got, rfl, hx4q2⟩ := hx4q2
    have hg := hx4q2.isB (w₀ := w₀)
    have hb2' := hb.mono hx4q2.sub
    simp (decide := true) only [aOps_nil, ev, absV, absS, putD, Slots.put, Slots.get, Slots.keep, if_true, if_false, List.contains_cons, List.contains_nil, true_and, and_true, ↓ap_move, pop_move, ↓ap_extract, pop_extract, pExt_tuple, List.length_cons, List.length_nil, List.getD_cons_zero, List.getD_cons_succ, ↓ap_assign, pop_assign, hb.len Try.underlying25, hb.apI Try.underlying25 sz5, hb.agI Try.underlying25 sz5, hb.apLd ag5, hb.agLd ag5, hb.eqnil Try.underlying25, hb.nenil Try.underlying25, hb.conv Try.underlying25 Try.underlying9 Try.underlying5]
    repeat (with_reducible refine And.intro ?_ ?_; · first | trivial | omega | (intro hg; simp only [Bool.and_eq_true, Bool.or_eq_true, Bool.not_eq_true', Bool.and_eq_false_iff, Bool.or_eq_false_iff, Bool.not_eq_false', decide_eq_true_eq, decide_eq_false_iff_not, eqNil] at hg; omega))
    apply hK; clear hK K
    -- region 5  law.go:119
    refine awp_rseq [0, 1, 5, 6, 7, 8] (by rfl) fun K hK => ?_
    simp (decide := true) only [aOps_nil, ev, absV, absS, putD, Slots.put, Slots.get, Slots.keep, if_true, if_false, List.contains_cons, List.contains_nil, true_and, and_true, ↓ap_assign, pop_assign, hb2'.len Try.underlying25, hb2'.apI Try.underlying25 sz5, hb2'.agI Try.underlying25 sz5, hb2'.apLd ag5, hb2'.agLd ag5, hb2'.eqnil Try.underlying25, hb2'.nenil Try.underlying25, hb2'.conv Try.underlying25 Try.underlying9 Try.underlying5, hg.len Try.underlying25, hg.apI Try.underlying25 sz5, hg.agI Try.underlying25 sz5, hg.apLd ag5, hg.agLd ag5, hg.eqnil Try.underlying25, hg.nenil Try.underlying25, hg.conv Try.underlying25 Try.underlying9 Try.underlying5, hx4q2.cap Try.underlying25]
    repeat (with_reducible refine And.intro ?_ ?_; · first | trivial | omega | (intro hg; simp only [Bool.and_eq_true, Bool.or_eq_true, Bool.not_eq_true', Bool.and_eq_false_iff, Bool.or_eq_false_iff, Bool.not_eq_false', decide_eq_true_eq, decide_eq_false_iff_not, eqNil] at hg; omega))
    apply hK; clear hK K
    refine awp_seq ?_
    -- region 6  law.go:120
    refine awp_rseq [0, 1, 5, 6, 7, 8, 31] (by rfl) fun K hK => ?_
    simp (decide := true) only [aOps_nil, ev, absV, absS, putD, Slots.put, Slots.get, Slots.keep, if_true, if_false, List.contains_cons, List.contains_nil, true_and, and_true, ↓ap_move, pop_move, ↓ap_binOp, pop_binOp, pBinX_int, pI_lss, hb2'.len Try.underlying25, hb2'.apI Try.underlying25 sz5, hb2'.agI Try.underlying25 sz5, hb2'.apLd ag5, hb2'.agLd ag5, hb2'.eqnil Try.underlying25, hb2'.nenil Try.underlying25, hb2'.conv Try.underlying25 Try.underlying9 Try.underlying5, hg.len Try.underlying25, hg.apI Try.underlying25 sz5, hg.agI Try.underlying25 sz5, hg.apLd ag5, hg.agLd ag5, hg.eqnil Try.underlying25, hg.nenil Try.underlying25, hg.conv Try.underlying25 Try.underlying9 Try.underlying5, hx4q2.cap Try.underlying25]
    repeat (with_reducible refine And.intro ?_ ?_; · first | trivial | omega | (intro hg; simp only [Bool.and_eq_true, Bool.or_eq_true, Bool.not_eq_true', Bool.and_eq_false_iff, Bool.or_eq_false_iff, Bool.not_eq_false', decide_eq_true_eq, decide_eq_false_iff_not, eqNil] at hg; omega))
    apply hK; clear hK K
    refine awp_joinT [0, 1, 5, 6, 7, 8] (fun e : Int => [(0, v), (1, .int .i64 n), (5, .str bs), (6, got), (7, .int .i64 (fillE bs n)), (8, .int .i64 e)]) (fun e : Int => h4q2) (fun e : Int => e = fillE bs n) ?_ ?_
    · refine awp_cond (b := _) rfl (fun hb2 => ?_) (fun hb2 => ?_)
      · try simp only [decide_eq_true_eq, decide_eq_false_iff_not, Bool.not_eq_true', Bool.not_eq_false', Bool.and_eq_true, Bool.and_eq_false_iff, Bool.or_eq_true, Bool.or_eq_false_iff, Bool.true_eq, Bool.false_eq, reduceCtorEq] at hb2
        -- region 7  law.go:121
        refine awp_r [0, 1, 5, 6, 7, 8] (by rfl) ?_
        simp (decide := true) only [aOps_nil, ev, absV, absS, putD, Slots.put, Slots.get, Slots.keep, if_true, if_false, List.contains_cons, List.contains_nil, true_and, and_true, ↓ap_assign, pop_assign, hb2'.len Try.underlying25, hb2'.apI Try.underlying25 sz5, hb2'.agI Try.underlying25 sz5, hb2'.apLd ag5, hb2'.agLd ag5, hb2'.eqnil Try.underlying25, hb2'.nenil Try.underlying25, hb2'.conv Try.underlying25 Try.underlying9 Try.underlying5, hg.len Try.underlying25, hg.apI Try.underlying25 sz5, hg.agI Try.underlying25 sz5, hg.apLd ag5, hg.agLd ag5, hg.eqnil Try.underlying25, hg.nenil Try.underlying25, hg.conv Try.underlying25 Try.underlying9 Try.underlying5, hx4q2.cap Try.underlying25]
        repeat (with_reducible refine And.intro ?_ ?_; · first | trivial | omega | (intro hg; simp only [Bool.and_eq_true, Bool.or_eq_true, Bool.not_eq_true', Bool.and_eq_false_iff, Bool.or_eq_false_iff, Bool.not_eq_false', decide_eq_true_eq, decide_eq_false_iff_not, eqNil] at hg; omega))
        try simp only [thenA_normal, inBlockA_normal]
        refine ⟨_, rfl, Sub.refl _, ?_⟩
        simp only [fillE]
        repeat (first | rw [if_pos (by omega)] | rw [if_neg (by omega)])
      · try simp only [decide_eq_true_eq, decide_eq_false_iff_not, Bool.not_eq_true', Bool.not_eq_false', Bool.and_eq_true, Bool.and_eq_false_iff, Bool.or_eq_true, Bool.or_eq_false_iff, Bool.true_eq, Bool.false_eq, reduceCtorEq] at hb2
        -- region 8  law.go:122
        refine awp_rseq [0, 1, 5, 6, 7, 8, 33] (by rfl) fun K hK => ?_
        simp (decide := true) only [aOps_nil, ev, absV, absS, putD, Slots.put, Slots.get, Slots.keep, if_true, if_false, List.contains_cons, List.contains_nil, true_and, and_true, ↓ap_move, pop_move, ↓ap_binOp, pop_binOp, pBinX_int, pI_gtr, hb2'.len Try.underlying25, hb2'.apI Try.underlying25 sz5, hb2'.agI Try.underlying25 sz5, hb2'.apLd ag5, hb2'.agLd ag5, hb2'.eqnil Try.underlying25, hb2'.nenil Try.underlying25, hb2'.conv Try.underlying25 Try.underlying9 Try.underlying5, hg.len Try.underlying25, hg.apI Try.underlying25 sz5, hg.agI Try.underlying25 sz5, hg.apLd ag5, hg.agLd ag5, hg.eqnil Try.underlying25, hg.nenil Try.underlying25, hg.conv Try.underlying25 Try.underlying9 Try.underlying5, hx4q2.cap Try.underlying25]
        repeat (with_reducible refine And.intro ?_ ?_; · first | trivial | omega | (intro hg; simp only [Bool.and_eq_true, Bool.or_eq_true, Bool.not_eq_true', Bool.and_eq_false_iff, Bool.or_eq_false_iff, Bool.not_eq_false', decide_eq_true_eq, decide_eq_false_iff_not, eqNil] at hg; omega))
        apply hK; clear hK K
        refine awp_cond (b := _) rfl (fun hb3 => ?_) (fun hb3 => ?_)
        · try simp only [decide_eq_true_eq, decide_eq_false_iff_not, Bool.not_eq_true', Bool.not_eq_false', Bool.and_eq_true, Bool.and_eq_false_iff, Bool.or_eq_true, Bool.or_eq_false_iff, Bool.true_eq, Bool.false_eq, reduceCtorEq] at hb3
          -- region 9  law.go:123
          refine awp_r [0, 1, 5, 6, 7, 8] (by rfl) ?_
          simp (decide := true) only [aOps_nil, ev, absV, absS, putD, Slots.put, Slots.get, Slots.keep, if_true, if_false, List.contains_cons, List.contains_nil, true_and, and_true, ↓ap_assign, pop_assign, hb2'.len Try.underlying25, hb2'.apI Try.underlying25 sz5, hb2'.agI Try.underlying25 sz5, hb2'.apLd ag5, hb2'.agLd ag5, hb2'.eqnil Try.underlying25, hb2'.nenil Try.underlying25, hb2'.conv Try.underlying25 Try.underlying9 Try.underlying5, hg.len Try.underlying25, hg.apI Try.underlying25 sz5, hg.agI Try.underlying25 sz5, hg.apLd ag5, hg.agLd ag5, hg.eqnil Try.underlying25, hg.nenil Try.underlying25, hg.conv Try.underlying25 Try.underlying9 Try.underlying5, hx4q2.cap Try.underlying25]
          repeat (with_reducible refine And.intro ?_ ?_; · first | trivial | omega | (intro hg; simp only [Bool.and_eq_true, Bool.or_eq_true, Bool.not_eq_true', Bool.and_eq_false_iff, Bool.or_eq_false_iff, Bool.not_eq_false', decide_eq_true_eq, decide_eq_false_iff_not, eqNil] at hg; omega))
          try simp only [thenA_normal, inBlockA_normal]
          refine ⟨_, rfl, Sub.refl _, ?_⟩
          simp only [fillE]
          repeat (first | rw [if_pos (by omega)] | rw [if_neg (by omega)])
        · try simp only [decide_eq_true_eq, decide_eq_false_iff_not, Bool.not_eq_true', Bool.not_eq_false', Bool.and_eq_true, Bool.and_eq_false_iff, Bool.or_eq_true, Bool.or_eq_false_iff, Bool.true_eq, Bool.false_eq, reduceCtorEq] at hb3
          -- region 10  law.go:124
          refine awp_rseq [0, 1, 5, 6, 7, 8, 40] (by rfl) fun K hK => ?_
          simp (decide := true) only [aOps_nil, ev, absV, absS, putD, Slots.put, Slots.get, Slots.keep, if_true, if_false, List.contains_cons, List.contains_nil, true_and, and_true, ↓ap_move, pop_move, ↓ap_binOp, pop_binOp, pBinX_int, pI_gtr, ↓ag_move, agP, agQ_some, gv, nthDst, gKnown_bool, gKnown_cond, guardB_cond, guardB_bool_true, guardB_bool_false, cv_cv, implies_true, Bool.not_not, decide_true, decide_false, Bool.not_false, Bool.not_true, condV_true, condV_false, forall_const, Bool.and_true, Bool.and_false, Bool.true_and, Bool.false_and, Bool.or_true, Bool.or_false, Bool.true_or, Bool.false_or, ↓ag_len, pop_len, pLen_slice Try.underlying25, pLen_nil Try.underlying25, cv_len, cp_len, ↓ag_binOp, cv_binl, cv_binr, cp_binl, cp_binr, pI_eql, ↓ap_pick, pop_pick, pPick_bool, pickV_cond_l, pickV_cond_r, pickV_cond_rn, cp_nest1, cp_nest2, cp_nest3, cp_nest4, pickV_and, pickV_or, hb2'.len Try.underlying25, hb2'.apI Try.underlying25 sz5, hb2'.agI Try.underlying25 sz5, hb2'.apLd ag5, hb2'.agLd ag5, hb2'.eqnil Try.underlying25, hb2'.nenil Try.underlying25, hb2'.conv Try.underlying25 Try.underlying9 Try.underlying5, hg.len Try.underlying25, hg.apI Try.underlying25 sz5, hg.agI Try.underlying25 sz5, hg.apLd ag5, hg.agLd ag5, hg.eqnil Try.underlying25, hg.nenil Try.underlying25, hg.conv Try.underlying25 Try.underlying9 Try.underlying5, hx4q2.cap Try.underlying25]
          repeat (with_reducible refine And.intro ?_ ?_; · first | trivial | omega | (intro hg; simp only [Bool.and_eq_true, Bool.or_eq_true, Bool.not_eq_true', Bool.and_eq_false_iff, Bool.or_eq_false_iff, Bool.not_eq_false', decide_eq_true_eq, decide_eq_false_iff_not, eqNil] at hg; omega))
          apply hK; clear hK K
          refine awp_cond (b := _) rfl (fun hb4 => ?_) (fun hb4 => ?_)
          · try simp only [decide_eq_true_eq, decide_eq_false_iff_not, Bool.not_eq_true', Bool.not_eq_false', Bool.and_eq_true, Bool.and_eq_false_iff, Bool.or_eq_true, Bool.or_eq_false_iff, Bool.true_eq, Bool.false_eq, reduceCtorEq] at hb4
            -- region 11  law.go:125
            refine awp_r [0, 1, 5, 6, 7, 8] (by rfl) ?_
            simp (decide := true) only [aOps_nil, ev, absV, absS, putD, Slots.put, Slots.get, Slots.keep, if_true, if_false, List.contains_cons, List.contains_nil, true_and, and_true, ↓ap_assign, pop_assign, hb2'.len Try.underlying25, hb2'.apI Try.underlying25 sz5, hb2'.agI Try.underlying25 sz5, hb2'.apLd ag5, hb2'.agLd ag5, hb2'.eqnil Try.underlying25, hb2'.nenil Try.underlying25, hb2'.conv Try.underlying25 Try.underlying9 Try.underlying5, hg.len Try.underlying25, hg.apI Try.underlying25 sz5, hg.agI Try.underlying25 sz5, hg.apLd ag5, hg.agLd ag5, hg.eqnil Try.underlying25, hg.nenil Try.underlying25, hg.conv Try.underlying25 Try.underlying9 Try.underlying5, hx4q2.cap Try.underlying25]
            repeat (with_reducible refine And.intro ?_ ?_; · first | trivial | omega | (intro hg; simp only [Bool.and_eq_true, Bool.or_eq_true, Bool.not_eq_true', Bool.and_eq_false_iff, Bool.or_eq_false_iff, Bool.not_eq_false', decide_eq_true_eq, decide_eq_false_iff_not, eqNil] at hg; omega))
            try simp only [thenA_normal, inBlockA_normal]
            refine ⟨_, rfl, Sub.refl _, ?_⟩
            simp only [fillE]
            repeat (first | rw [if_pos (by omega)] | rw [if_neg (by omega)])
          · try simp only [decide_eq_true_eq, decide_eq_false_iff_not, Bool.not_eq_true', Bool.not_eq_false', Bool.and_eq_true, Bool.and_eq_false_iff, Bool.or_eq_true, Bool.or_eq_false_iff, Bool.true_eq, Bool.false_eq, reduceCtorEq] at hb4
            refine awp_skip ?_
            try simp only [thenA_normal, inBlockA_normal]
            refine ⟨_, rfl, Sub.refl _, ?_⟩
            simp only [fillE]
            repeat (first | rw [if_pos (by omega)] | rw [if_neg (by omega)])
    · intro e he
      subst he
      have hf := fillR_facts bs n
      refine awp_seq ?_
      -- region 12  law.go:127
      refine awp_rseq [0, 6, 74] (by rfl) fun K hK => ?_
      simp (decide := true) only [aOps_nil, ev, absV, absS, putD, Slots.put, Slots.get, Slots.keep, if_true, if_false, List.contains_cons, List.contains_nil, true_and, and_true, ↓ap_move, pop_move, ↓ap_binOp, pop_binOp, pBinX_int, pI_neq, ↓ag_move, agP, agQ_some, gv, nthDst, gKnown_bool, gKnown_cond, guardB_cond, guardB_bool_true, guardB_bool_false, cv_cv, implies_true, Bool.not_not, decide_true, decide_false, Bool.not_false, Bool.not_true, condV_true, condV_false, forall_const, Bool.and_true, Bool.and_false, Bool.true_and, Bool.false_and, Bool.or_true, Bool.or_false, Bool.true_or, Bool.false_or, ↓ag_convert _ _ _ (es_str Try.underlying25 Try.underlying9), pop_convert, pConv_nil Try.underlying25 Try.underlying9 Try.underlying5, pConv_bytes Try.underlying25 Try.underlying9 Try.underlying5, cv_conv, cp_conv, ↓ag_binOp, cv_binl, cv_binr, cp_binl, cp_binr, pBinX_str, pS_neq, ↓ap_pick, pop_pick, pPick_bool, pickV_cond_l, pickV_cond_r, pickV_cond_rn, cp_nest1, cp_nest2, cp_nest3, cp_nest4, pickV_and, pickV_or, ↓ag_len, pop_len, pLen_slice Try.underlying25, pLen_nil Try.underlying25, cv_len, cp_len, ↓ag_pick, cv_pick, cp_pick, pI_eql, ↓ag_cap, pop_cap, pCap_slice Try.underlying25, pCap_nil Try.underlying25, cv_cap, cp_cap, hb2'.len Try.underlying25, hb2'.apI Try.underlying25 sz5, hb2'.agI Try.underlying25 sz5, hb2'.apLd ag5, hb2'.agLd ag5, hb2'.eqnil Try.underlying25, hb2'.nenil Try.underlying25, hb2'.conv Try.underlying25 Try.underlying9 Try.underlying5, hg.len Try.underlying25, hg.apI Try.underlying25 sz5, hg.agI Try.underlying25 sz5, hg.apLd ag5, hg.agLd ag5, hg.eqnil Try.underlying25, hg.nenil Try.underlying25, hg.conv Try.underlying25 Try.underlying9 Try.underlying5, hx4q2.cap Try.underlying25]
      try simp (disch := omega) only [wrap_i64, wrap_u8]
      repeat (with_reducible refine And.intro ?_ ?_; · first | trivial | omega | (intro hg; simp only [Bool.and_eq_true, Bool.or_eq_true, Bool.not_eq_true', Bool.and_eq_false_iff, Bool.or_eq_false_iff, Bool.not_eq_false', decide_eq_true_eq, decide_eq_false_iff_not, eqNil] at hg; omega))
      apply hK; clear hK K
      refine awp_cond (b := _) rfl (fun hb5 => ?_) (fun hb5 => ?_)
      · try simp only [decide_eq_true_eq, decide_eq_false_iff_not, Bool.not_eq_true', Bool.not_eq_false', Bool.and_eq_true, Bool.and_eq_false_iff, Bool.or_eq_true, Bool.or_eq_false_iff, Bool.true_eq, Bool.false_eq, reduceCtorEq] at hb5
        exfalso
        rcases hf with ⟨f1, f2⟩ | ⟨f1, f2, f3, f4⟩ <;> omega
      · try simp only [decide_eq_true_eq, decide_eq_false_iff_not, Bool.not_eq_true', Bool.not_eq_false', Bool.and_eq_true, Bool.and_eq_false_iff, Bool.or_eq_true, Bool.or_eq_false_iff, Bool.true_eq, Bool.false_eq, reduceCtorEq] at hb5
        refine awp_skip ?_
        change Awp _ _ _ _ _ _ _
        refine awp_seq ?_
        -- region 14  law.go:130
        refine awp_rseq [0, 6, 9] (by rfl) fun K hK => ?_
        simp (decide := true) only [aOps_nil, ev, absV, absS, putD, Slots.put, Slots.get, Slots.keep, if_true, if_false, List.contains_cons, List.contains_nil, true_and, and_true, ↓ap_assign, pop_assign, hb2'.len Try.underlying25, hb2'.apI Try.underlying25 sz5, hb2'.agI Try.underlying25 sz5, hb2'.apLd ag5, hb2'.agLd ag5, hb2'.eqnil Try.underlying25, hb2'.nenil Try.underlying25, hb2'.conv Try.underlying25 Try.underlying9 Try.underlying5, hg.len Try.underlying25, hg.apI Try.underlying25 sz5, hg.agI Try.underlying25 sz5, hg.apLd ag5, hg.agLd ag5, hg.eqnil Try.underlying25, hg.nenil Try.underlying25, hg.conv Try.underlying25 Try.underlying9 Try.underlying5, hx4q2.cap Try.underlying25]
        repeat (with_reducible refine And.intro ?_ ?_; · first | trivial | omega | (intro hg; simp only [Bool.and_eq_true, Bool.or_eq_true, Bool.not_eq_true', Bool.and_eq_false_iff, Bool.or_eq_false_iff, Bool.not_eq_false', decide_eq_true_eq, decide_eq_false_iff_not, eqNil] at hg; omega))
        apply hK; clear hK K
        refine awp_block ?_
        refine awp_loopG [0, 6, 9] (fun i : Nat => [(0, v), (6, got), (9, .int .i64 i)]) (fun i : Nat => h4q2) (fun i : Nat => i ≤ (fillR bs n).length) (fun i : Nat => (fillR bs n).length - i) 0 rfl (Sub.refl _) (Nat.zero_le _) ?_
        rintro i hi1
        refine awp_seq ?_
        -- region 15  law.go:130
        refine awp_rseq [0, 6, 9, 78] (by rfl) fun K hK => ?_
        simp (decide := true) only [aOps_nil, ev, absV, absS, putD, Slots.put, Slots.get, Slots.keep, if_true, if_false, List.contains_cons, List.contains_nil, true_and, and_true, ↓ap_move, pop_move, ↓ap_len, pop_len, pLen_slice Try.underlying25, pLen_nil Try.underlying25, ↓ap_binOp, pop_binOp, pBinX_int, pI_lss, hb2'.len Try.underlying25, hb2'.apI Try.underlying25 sz5, hb2'.agI Try.underlying25 sz5, hb2'.apLd ag5, hb2'.agLd ag5, hb2'.eqnil Try.underlying25, hb2'.nenil Try.underlying25, hb2'.conv Try.underlying25 Try.underlying9 Try.underlying5, hg.len Try.underlying25, hg.apI Try.underlying25 sz5, hg.agI Try.underlying25 sz5, hg.apLd ag5, hg.agLd ag5, hg.eqnil Try.underlying25, hg.nenil Try.underlying25, hg.conv Try.underlying25 Try.underlying9 Try.underlying5, hx4q2.cap Try.underlying25]
        repeat (with_reducible refine And.intro ?_ ?_; · first | trivial | omega | (intro hg; simp only [Bool.and_eq_true, Bool.or_eq_true, Bool.not_eq_true', Bool.and_eq_false_iff, Bool.or_eq_false_iff, Bool.not_eq_false', decide_eq_true_eq, decide_eq_false_iff_not, eqNil] at hg; omega))
        apply hK; clear hK K
        refine awp_cond (b := _) rfl (fun hb6 => ?_) (fun hb6 => ?_)
        · try simp only [decide_eq_true_eq, decide_eq_false_iff_not, Bool.not_eq_true', Bool.not_eq_false', Bool.and_eq_true, Bool.and_eq_false_iff, Bool.or_eq_true, Bool.or_eq_false_iff, Bool.true_eq, Bool.false_eq, reduceCtorEq] at hb6
          have hk : fillR bs n = fillB bs n.toNat ∧ bs.length ≠ 0 ∧ i < n.toNat := by
            rcases hf with ⟨f1, f2⟩ | ⟨f1, f2, f3, f4⟩
            · omega
            · exact ⟨f2, f4 (by omega), by omega⟩
          obtain ⟨hk1, hk2, hk3⟩ := hk
          have hm := Nat.mod_lt i (show bs.length > 0 by omega)
          refine awp_skip ?_
          change Awp _ _ _ _ _ _ _
          refine awp_seq ?_
          refine awp_block ?_
          -- region 17  law.go:131
          refine awp_dseq_all [0, 6, 9, 92] mixed (by kernel_rfl) (by rfl) (by rfl) fun K hK => ?_
          simp (decide := true) only [aOps_nil, ev, absV, absS, putD, Slots.put, Slots.get, Slots.keep, if_true, if_false, List.contains_cons, List.contains_nil, true_and, and_true, ↓ap_move, pop_move, ↓ap_indexAddrL, apL_mk, pIndexAddr_slice Try.underlying25 sz5, ↓ap_loadL, pLoad_one ag5, ↓ap_len, pop_len, pLen_slice Try.underlying25, pLen_nil Try.underlying25, ↓ap_binOp, pop_binOp, pBinX_int, pI_rem, pI_neq, hb2'.len Try.underlying25, hb2'.apI Try.underlying25 sz5, hb2'.agI Try.underlying25 sz5, hb2'.apLd ag5, hb2'.agLd ag5, hb2'.eqnil Try.underlying25, hb2'.nenil Try.underlying25, hb2'.conv Try.underlying25 Try.underlying9 Try.underlying5, hg.len Try.underlying25, hg.apI Try.underlying25 sz5, hg.agI Try.underlying25 sz5, hg.apLd ag5, hg.agLd ag5, hg.eqnil Try.underlying25, hg.nenil Try.underlying25, hg.conv Try.underlying25 Try.underlying9 Try.underlying5, hx4q2.cap Try.underlying25, tmod_nat, Int.toNat_natCast]
          repeat (with_reducible refine And.intro ?_ ?_; · first | trivial | omega | (intro hg; simp only [Bool.and_eq_true, Bool.or_eq_true, Bool.not_eq_true', Bool.and_eq_false_iff, Bool.or_eq_false_iff, Bool.not_eq_false', decide_eq_true_eq, decide_eq_false_iff_not, eqNil] at hg; omega))
          apply hK; clear hK K
          refine awp_cond (b := _) rfl (fun hb7 => ?_) (fun hb7 => ?_)
          · try simp only [decide_eq_true_eq, decide_eq_false_iff_not, Bool.not_eq_true', Bool.not_eq_false', Bool.and_eq_true, Bool.and_eq_false_iff, Bool.or_eq_true, Bool.or_eq_false_iff, Bool.true_eq, Bool.false_eq, reduceCtorEq] at hb7
            -- region 18  law.go:132
            refine awp_rseq [4] (by rfl) fun K hK => ?_
            simp (decide := true) only [aOps_nil, ev, absV, absS, putD, Slots.put, Slots.get, Slots.keep, if_true, if_false, List.contains_cons, List.contains_nil, true_and, and_true, ↓ap_assign, pop_assign, hb2'.len Try.underlying25, hb2'.apI Try.underlying25 sz5, hb2'.agI Try.underlying25 sz5, hb2'.apLd ag5, hb2'.agLd ag5, hb2'.eqnil Try.underlying25, hb2'.nenil Try.underlying25, hb2'.conv Try.underlying25 Try.underlying9 Try.underlying5, hg.len Try.underlying25, hg.apI Try.underlying25 sz5, hg.agI Try.underlying25 sz5, hg.apLd ag5, hg.agLd ag5, hg.eqnil Try.underlying25, hg.nenil Try.underlying25, hg.conv Try.underlying25 Try.underlying9 Try.underlying5, hx4q2.cap Try.underlying25]
            repeat (with_reducible refine And.intro ?_ ?_; · first | trivial | omega | (intro hg; simp only [Bool.and_eq_true, Bool.or_eq_true, Bool.not_eq_true', Bool.and_eq_false_iff, Bool.or_eq_false_iff, Bool.not_eq_false', decide_eq_true_eq, decide_eq_false_iff_not, eqNil] at hg; omega))
            apply hK; clear hK K
            refine awp_ret ?_
            try simp only [thenA_ret, inBlockA_ret]
            refine retA_ret _ (Sub.refl _) (resPre_tmp (resPre_nil)) ?_
            simp (decide := true) only [aOps_nil, ev, absV, absS, putD, Slots.put, Slots.get, Slots.keep, if_true, if_false, List.contains_cons, List.contains_nil, true_and, and_true, resOf_one, hb2'.len Try.underlying25, hb2'.apI Try.underlying25 sz5, hb2'.agI Try.underlying25 sz5, hb2'.apLd ag5, hb2'.agLd ag5, hb2'.eqnil Try.underlying25, hb2'.nenil Try.underlying25, hb2'.conv Try.underlying25 Try.underlying9 Try.underlying5, hg.len Try.underlying25, hg.apI Try.underlying25 sz5, hg.agI Try.underlying25 sz5, hg.apLd ag5, hg.agLd ag5, hg.eqnil Try.underlying25, hg.nenil Try.underlying25, hg.conv Try.underlying25 Try.underlying9 Try.underlying5, hx4q2.cap Try.underlying25]
            exfalso
            rw [hk1, fillB_get bs _ i hk3] at hb7
            exact hb7 rfl
          · try simp only [decide_eq_true_eq, decide_eq_false_iff_not, Bool.not_eq_true', Bool.not_eq_false', Bool.and_eq_true, Bool.and_eq_false_iff, Bool.or_eq_true, Bool.or_eq_false_iff, Bool.true_eq, Bool.false_eq, reduceCtorEq] at hb7
            refine awp_skip ?_
            change Awp _ _ _ _ _ _ _
            -- region 16  law.go:130
            refine awp_r [0, 6, 9] (by rfl) ?_
            simp (decide := true) only [aOps_nil, ev, absV, absS, putD, Slots.put, Slots.get, Slots.keep, if_true, if_false, List.contains_cons, List.contains_nil, true_and, and_true, ↓ap_move, pop_move, ↓ap_binOp, pop_binOp, pBinX_int, pI_add, ↓ap_assign, pop_assign, hb2'.len Try.underlying25, hb2'.apI Try.underlying25 sz5, hb2'.agI Try.underlying25 sz5, hb2'.apLd ag5, hb2'.agLd ag5, hb2'.eqnil Try.underlying25, hb2'.nenil Try.underlying25, hb2'.conv Try.underlying25 Try.underlying9 Try.underlying5, hg.len Try.underlying25, hg.apI Try.underlying25 sz5, hg.agI Try.underlying25 sz5, hg.apLd ag5, hg.agLd ag5, hg.eqnil Try.underlying25, hg.nenil Try.underlying25, hg.conv Try.underlying25 Try.underlying9 Try.underlying5, hx4q2.cap Try.underlying25]
            try simp (disch := omega) only [wrap_i64, wrap_u8]
            repeat (with_reducible refine And.intro ?_ ?_; · first | trivial | omega | (intro hg; simp only [Bool.and_eq_true, Bool.or_eq_true, Bool.not_eq_true', Bool.and_eq_false_iff, Bool.or_eq_false_iff, Bool.not_eq_false', decide_eq_true_eq, decide_eq_false_iff_not, eqNil] at hg; omega))
            try simp only [thenA_normal, inBlockA_normal]
            exact ⟨i + 1, rfl, Sub.refl _, by omega, by omega⟩
        · try simp only [decide_eq_true_eq, decide_eq_false_iff_not, Bool.not_eq_true', Bool.not_eq_false', Bool.and_eq_true, Bool.and_eq_false_iff, Bool.or_eq_true, Bool.or_eq_false_iff, Bool.true_eq, Bool.false_eq, reduceCtorEq] at hb6
          refine awp_exit ?_
          change Awp _ _ _ _ _ _ _
          -- region 19  law.go:135
          refine awp_rseq [4] (by rfl) fun K hK => ?_
          refine aOps_callV (V := .bool true) (by rfl) (by rfl) (c_lives w₀ _) ?_
          simp (decide := true) only [aOps_nil, ev, absV, absS, putD, Slots.put, Slots.get, Slots.keep, if_true, if_false, List.contains_cons, List.contains_nil, true_and, and_true, ↓ap_assign, pop_assign, hb2'.len Try.underlying25, hb2'.apI Try.underlying25 sz5, hb2'.agI Try.underlying25 sz5, hb2'.apLd ag5, hb2'.agLd ag5, hb2'.eqnil Try.underlying25, hb2'.nenil Try.underlying25, hb2'.conv Try.underlying25 Try.underlying9 Try.underlying5, hg.len Try.underlying25, hg.apI Try.underlying25 sz5, hg.agI Try.underlying25 sz5, hg.apLd ag5, hg.agLd ag5, hg.eqnil Try.underlying25, hg.nenil Try.underlying25, hg.conv Try.underlying25 Try.underlying9 Try.underlying5, hx4q2.cap Try.underlying25]
          repeat (with_reducible refine And.intro ?_ ?_; · first | trivial | omega | (intro hg; simp only [Bool.and_eq_true, Bool.or_eq_true, Bool.not_eq_true', Bool.and_eq_false_iff, Bool.or_eq_false_iff, Bool.not_eq_false', decide_eq_true_eq, decide_eq_false_iff_not, eqNil] at hg; omega))
          apply hK; clear hK K
          refine awp_ret ?_
          try simp only [thenA_ret, inBlockA_ret]
          refine retA_ret _ (Sub.refl _) (resPre_tmp (resPre_nil)) ?_
          simp (decide := true) only [aOps_nil, ev, absV, absS, putD, Slots.put, Slots.get, Slots.keep, if_true, if_false, List.contains_cons, List.contains_nil, true_and, and_true, resOf_one, hb2'.len Try.underlying25, hb2'.apI Try.underlying25 sz5, hb2'.agI Try.underlying25 sz5, hb2'.apLd ag5, hb2'.agLd ag5, hb2'.eqnil Try.underlying25, hb2'.nenil Try.underlying25, hb2'.conv Try.underlying25 Try.underlying9 Try.underlying5, hg.len Try.underlying25, hg.apI Try.underlying25 sz5, hg.agI Try.underlying25 sz5, hg.apLd ag5, hg.agLd ag5, hg.eqnil Try.underlying25, hg.nenil Try.underlying25, hg.conv Try.underlying25 Try.underlying9 Try.underlying5, hx4q2.cap Try.underlying25]
          all_goals first | rfl | exact ⟨rfl, rfl⟩ | (simp (decide := true) only [if_true, if_false, *]; done) | (trace_state; fail)
end Go.Proofs.Ytmnlmfiokbnhhaa
