/-
  The statement RoundingsErrors, walked: arguments that are not valid are errors.
  Conditions: none.
-/
import Derived.Test.YtnaioficflbioaaDoorRdJ
set_option linter.unnecessarySimpa false
set_option linter.unusedSimpArgs false
set_option linter.unusedVariables false
namespace Go.Proofs.YtnaioficflbioaaDoor
open Go.AM
open Go.Proofs
open Go.Dec
open Go.Lib (decDigits)
set_option maxRecDepth 100000

theorem resE_ne1 (c : D) : (resE c).2 ≠ 1 := by
  unfold resE
  split
  · decide
  · exact fun h => absurd (show (0 : Int) = 1 from h) (by decide)
theorem normE_ne1 (neg : Bool) (n : Nat) (s : Int) : (normE neg n s).2 ≠ 1 := by
  unfold normE
  exact resE_ne1 _
theorem round_one (d : D) (s m : Int) : (roundE d s m).2 = 1 ↔ ¬(checkE d = 0 ∧ -62 ≤ s ∧ s ≤ 62 ∧ m ≤ 7) := by
  constructor
  · rintro h ⟨hv, s0, s1, m7⟩
    rw [roundE_val hv s m s0 s1 m7] at h
    revert h
    split
    · intro h; cases h
    · split
      · intro h; cases h
      · exact fun h => resE_ne1 _ h
  · intro h
    have : chkR d 1 s ≠ 0 ∨ 7 < m := by
      by_cases c : chkR d 1 s = 0
      · obtain ⟨hv, _, _, s0, s1⟩ := chkR_0 c
        refine .inr (Int.lt_of_not_ge fun hm => h ⟨hv, s0, s1, hm⟩)
      · exact .inl c
    rw [roundE, if_pos this]
theorem chk_iff (d : D) (g s : Int) : chkR d g s ≠ 0 ↔ ¬(checkE d = 0 ∧ (-62 ≤ s ∧ s ≤ 62) ∧ 1 ≤ g ∧ g ≤ 62) := by
  unfold chkR
  split
  · rename_i h
    exact ⟨fun e => absurd rfl e, fun e => absurd ⟨h.1, ⟨h.2.2.2.1, h.2.2.2.2⟩, h.2.1, h.2.2.1⟩ e⟩
  · rename_i h
    exact ⟨fun _ e => h ⟨e.1, e.2.2.1, e.2.2.2, e.2.1.1, e.2.1.2⟩, fun _ => by decide⟩
theorem chk_one {d : D} {g s : Int} (h : chkR d g s ≠ 0) : chkR d g s = 1 := (chkR_01 d g s).resolve_left h
theorem fits_one (d : D) (g s : Int) : (fitsE d g s).2 = 1 ↔ chkR d g s ≠ 0 := by
  unfold fitsE
  split
  · rename_i h; exact ⟨fun _ => h, fun _ => chk_one h⟩
  · rename_i h; exact ⟨(fun e => by simp at e), fun e => absurd e h⟩
theorem digits_one (d : D) (g s : Int) : (digitsE d g s).2 = 1 ↔ chkR d g s ≠ 0 := by
  have hf := fits_one d g s
  unfold digitsE
  split
  · exact hf
  · rename_i h
    have h' : (fitsE d g s).2 = 0 := by simpa using h
    rw [h'] at hf
    split <;> exact ⟨(fun e => by simp at e), fun e => absurd (hf.2 e) (by decide)⟩
theorem placesE_all {d : D} (dd : d.dig.all dg = true) (n s : Int) : (placesE d n s).1.all dg = true := by
  have r : ∀ k, (List.replicate k (48 : UInt8)).all dg = true := fun k => by
    rw [List.all_eq_true]
    intro x hx
    rw [List.eq_of_mem_replicate hx]
    decide
  unfold placesE
  split
  · rfl
  · simp only [List.all_append, Bool.and_eq_true]
    refine ⟨r _, ?_⟩
    split
    · rw [List.all_append, dd, r]; rfl
    · rw [List.all_eq_true] at dd ⊢
      exact fun x hx => dd x (List.mem_of_mem_take hx)
theorem low_one (d : D) (g s : Int) : (lowE d g s).2 = 1 ↔ chkR d g s ≠ 0 := by
  unfold lowE
  split
  · rename_i h; exact ⟨fun _ => h, fun _ => chk_one h⟩
  · rename_i h
    have h0 : chkR d g s = 0 := by simpa using h
    obtain ⟨hv, g0, g1, s0, s1⟩ := chkR_0 h0
    obtain ⟨sd, dd, _, _⟩ := Small_of_check hv
    obtain ⟨p1, p2, _⟩ := placesE_len d g s sd s0 s1 g0 g1
    split
    · exact ⟨(fun e => by simp at e), fun e => absurd h0 e⟩
    · rename_i hp
      have p3 := p2 (by simpa using hp)
      have hall := placesE_all dd g s
      refine ⟨fun e => ?_, fun e => absurd h0 e⟩
      unfold newE at e
      have hn : numB (List.drop (((placesE d g s).1.length : Int) - g).toNat (placesE d g s).1) = true := by
        unfold numB
        rw [Bool.and_eq_true]
        refine ⟨?_, ?_⟩
        · rw [Bool.not_eq_true', decide_eq_false_iff_not]
          intro hnil
          have := congrArg List.length hnil
          rw [List.length_drop, List.length_nil] at this
          omega
        · rw [List.all_eq_true] at hall ⊢
          exact fun x hx => hall x (List.mem_of_mem_drop hx)
      rw [if_pos ⟨hn, by rw [List.length_drop]; omega, by omega, by omega⟩] at e
      exact absurd e (normE_ne1 _ _ _)

set_option maxHeartbeats 2000000 in
theorem l_RoundingsErrors (w₀ : World) (ht : Tab10 w₀) (h : AHeap) (d : D) (hl : d.dig.length ≤ 9223372036854775807) (a b : Int) (hab : (-9223372036854775808 ≤ a ∧ a ≤ 9223372036854775807) ∧ -9223372036854775808 ≤ b ∧ b ≤ 9223372036854775807) (m : UInt8) :
    ACall Tryd.prog w₀ 5 [decA d, .agg [.int .i64 a, .int .i64 b], .int .u8 m.toNat] h (fun x _ => x = .bool true) := by
  refine ACall.mono (R := fun x h' => x = .bool true ∧ h' = h) ?_ fun x h' hx => hx.1
  obtain ⟨⟨a0, a1⟩, b0, b1⟩ := hab
  have hm := m.toNat_lt
  have e1 := round_one d a m.toNat
  have e2 := (fits_one d b a).trans (chk_iff d b a)
  have e3 := (low_one d b a).trans (chk_iff d b a)
  have e4 := (digits_one d b a).trans (chk_iff d b a)
  refine acall_intro (n := 120) (rs := [.tmp 6]) Tryd.func5 rfl rfl rfl rfl (Nat.le_of_ble_eq_true rfl) ?_
  simp only [initSlots]
  -- region 0  law.go:291
  refine awp_rseq [2, 3, 4] (by rfl) fun K hK => ?_
  refine aOps_box (by rfl) (by rfl) (by rfl) fun k0q0 hk0q0 => ?_
  try have hf_0q0 : h k0q0 = none := by first | assumption | (simp only [AHeap.set_none] at hk0q0; simp only [hk0q0])
  skip
  refine aOps_box (by rfl) (by rfl) (by rfl) fun k0q1 hk0q1 => ?_
  have ne_0q1_0q0 : k0q1 ≠ k0q0 := by simp only [AHeap.set_none] at hk0q1; simp only [hk0q1, ne_eq, not_false_eq_true]
  try have hf_0q1 : h k0q1 = none := by first | assumption | (simp only [AHeap.set_none] at hk0q1; simp only [hk0q1])
  skip
  simp (decide := true) only [aOps_nil, ev, absV, absS, putD, Slots.put, Slots.get, Slots.keep, if_true, if_false, true_and, ↓ap_assign, pop_assign, AVal.cells, Nat.zero_add, Nat.reduceAdd, decA]
  repeat (with_reducible refine And.intro ?_ ?_; · first | trivial | omega | (intro hg; simp only [Bool.and_eq_true, Bool.or_eq_true, Bool.not_eq_true', Bool.and_eq_false_iff, Bool.or_eq_false_iff, Bool.not_eq_false', decide_eq_true_eq, decide_eq_false_iff_not, eqNil] at hg; omega))
  apply hK; clear hK K
  refine awp_seq ?_
  -- region 1  law.go:292
  refine awp_rseq [2, 3, 4, 22] (by rfl) fun K hK => ?_
  simp (decide := true) only [aOps_nil, ev, absV, absS, putD, Slots.put, Slots.get, Slots.keep, if_true, if_false, true_and, ↓ap_fieldAddr, pop_fieldAddr, fa28_1, ↓ap_loadL, apL_mk, pLoad_one ag9, ↓ap_len, pop_len, pLen_str Tryd.underlying9, ↓ap_binOp, pop_binOp, pBinX_int, pI_gtr, rd_ne', ne_eq, not_false_eq_true, ne_0q1_0q0.symm, rd_any, List.getD_cons_zero, List.getD_cons_succ, Nat.zero_add, lv_str]
  repeat (with_reducible refine And.intro ?_ ?_; · first | trivial | omega | (intro hg; simp only [Bool.and_eq_true, Bool.or_eq_true, Bool.not_eq_true', Bool.and_eq_false_iff, Bool.or_eq_false_iff, Bool.not_eq_false', decide_eq_true_eq, decide_eq_false_iff_not, eqNil] at hg; omega))
  apply hK; clear hK K
  refine awp_cond (b := _) rfl (fun hb1 => ?_) (fun hb1 => ?_)
  · try simp only [decide_eq_true_eq] at hb1
    -- region 2  law.go:293
    refine awp_rseq [6] (by rfl) fun K hK => ?_
    refine aOps_callV (V := .bool true) (by rfl) (by rfl) (c_lives w₀ ht _) ?_
    simp (decide := true) only [aOps_nil, ev, putD, Slots.put, Slots.get, Slots.keep, if_true, if_false, true_and, ↓ap_assign, pop_assign]
    repeat (with_reducible refine And.intro ?_ ?_; · first | trivial | omega | (intro hg; simp only [Bool.and_eq_true, Bool.or_eq_true, Bool.not_eq_true', Bool.and_eq_false_iff, Bool.or_eq_false_iff, Bool.not_eq_false', decide_eq_true_eq, decide_eq_false_iff_not, eqNil] at hg; omega))
    apply hK; clear hK K
    refine awp_ret ?_
    try simp only [thenA_ret]
    refine retA_ret h (by repeat (first | exact Sub.refl _ | refine Sub.trans_set ?_ (by assumption))) (resPre_tmp (resPre_nil)) ?_
    simp (decide := true) only [Slots.get, if_true, and_true, resOf_one]
    all_goals first | rfl | exact ⟨rfl, rfl⟩ | (simp (decide := true) only [if_true, if_false, *]; done) | (trace_state; fail)
  · try simp only [decide_eq_false_iff_not] at hb1
    refine awp_skip ?_
    change Awp _ _ _ _ _ _ _
    -- region 3  law.go:295
    refine awp_rseq [2, 3, 4, 7] (by rfl) fun K hK => ?_
    simp (decide := true) only [aOps_nil, ev, absV, absS, putD, Slots.put, Slots.get, Slots.keep, if_true, if_false, true_and, ↓ap_indexAddrL, apL_mk, pIndexAddr_ptr Tryd.underlying49 sz3, ↓ap_loadL, pLoad_one ag3, ↓ap_binOp, pop_binOp, pBinX_int, pI_geq, ↓ap_move, pop_move, ↓ag_indexAddrL, agQL_some, agL_mk, agP, agQ_some, nthDst, gKnown_bool, guardB_bool_true, implies_true, ↓ag_loadL, agL_ld1, ↓ag_binOp, cv_binl, cp_binl, pI_leq, ↓ap_pick, pop_pick, pPick_bool, pickV_cond_l, pickV_and, ↓ap_assign, pop_assign, rd_any, List.getD_cons_zero, Nat.zero_add, lv_int, Int.reduceToNat, Nat.reduceMul]
    repeat (with_reducible refine And.intro ?_ ?_; · first | trivial | omega | (intro hg; simp only [Bool.and_eq_true, Bool.or_eq_true, Bool.not_eq_true', Bool.and_eq_false_iff, Bool.or_eq_false_iff, Bool.not_eq_false', decide_eq_true_eq, decide_eq_false_iff_not, eqNil] at hg; omega))
    apply hK; clear hK K
    -- region 4  law.go:296
    refine awp_rseq [2, 3, 4, 7, 8] (by rfl) fun K hK => ?_
    simp (decide := true) only [aOps_nil, ev, absV, absS, putD, Slots.put, Slots.get, Slots.keep, if_true, if_false, true_and, ↓ap_indexAddrL, apL_mk, pIndexAddr_ptr Tryd.underlying49 sz3, ↓ap_loadL, pLoad_one ag3, ↓ap_binOp, pop_binOp, pBinX_int, pI_geq, ↓ap_move, pop_move, ↓ag_indexAddrL, agQL_some, agL_mk, agP, agQ_some, nthDst, gKnown_bool, guardB_bool_true, implies_true, ↓ag_loadL, agL_ld1, ↓ag_binOp, cv_binl, cp_binl, pI_leq, ↓ap_pick, pop_pick, pPick_bool, pickV_cond_l, pickV_and, ↓ap_assign, pop_assign, rd_any, List.getD_cons_zero, List.getD_cons_succ, Nat.zero_add, lv_int, Int.reduceToNat, Nat.reduceMul]
    repeat (with_reducible refine And.intro ?_ ?_; · first | trivial | omega | (intro hg; simp only [Bool.and_eq_true, Bool.or_eq_true, Bool.not_eq_true', Bool.and_eq_false_iff, Bool.or_eq_false_iff, Bool.not_eq_false', decide_eq_true_eq, decide_eq_false_iff_not, eqNil] at hg; omega))
    apply hK; clear hK K
    -- region 5  law.go:297
    refine awp_rseq [2, 3, 4, 7, 8, 9] (by rfl) fun K hK => ?_
    simp (decide := true) only [ev, putD, Slots.put, Slots.get, if_true, if_false, true_and, ↓ap_loadL, apL_mk, pLoad_agg ag28 sz28, rd_ne', ne_eq, not_false_eq_true, ne_0q1_0q0.symm, rd_any, cellsAt, List.getD_cons_zero, List.getD_cons_succ, Nat.zero_add, Nat.reduceAdd, lv_bool, lv_int, lv_str, allLive, Bool.and_true]
    repeat (with_reducible refine And.intro ?_ ?_; · first | trivial | omega | (intro hg; simp only [Bool.and_eq_true, Bool.or_eq_true, Bool.not_eq_true', Bool.and_eq_false_iff, Bool.or_eq_false_iff, Bool.not_eq_false', decide_eq_true_eq, decide_eq_false_iff_not, eqNil] at hg; omega))
    refine aOps_callV (V := .int .i64 (checkE d)) (by rfl) (by rfl) (c_Check w₀ _ d hl) ?_
    simp (decide := true) only [aOps_nil, ev, absV, absS, putD, Slots.put, Slots.get, Slots.keep, if_true, if_false, true_and, ↓ap_binOp, pop_binOp, pBinX_int, pI_eql, ↓ap_assign, pop_assign]
    repeat (with_reducible refine And.intro ?_ ?_; · first | trivial | omega | (intro hg; simp only [Bool.and_eq_true, Bool.or_eq_true, Bool.not_eq_true', Bool.and_eq_false_iff, Bool.or_eq_false_iff, Bool.not_eq_false', decide_eq_true_eq, decide_eq_false_iff_not, eqNil] at hg; omega))
    apply hK; clear hK K
    -- region 6  law.go:298
    refine awp_rseq [2, 3, 4, 7, 8, 9, 11] (by rfl) fun K hK => ?_
    simp (decide := true) only [ev, absV, absS, putD, Slots.put, Slots.get, if_true, if_false, true_and, ↓ap_loadL, apL_mk, pLoad_agg ag28 sz28, ↓ap_indexAddrL, pIndexAddr_ptr Tryd.underlying49 sz3, pLoad_one ag3, ↓ap_move, pop_move, rd_ne', ne_eq, not_false_eq_true, ne_0q1_0q0.symm, rd_any, cellsAt, List.getD_cons_zero, List.getD_cons_succ, Nat.zero_add, Nat.reduceAdd, lv_bool, lv_int, lv_str, allLive, Bool.and_true, Int.reduceToNat, Nat.reduceMul]
    repeat (with_reducible refine And.intro ?_ ?_; · first | trivial | omega | (intro hg; simp only [Bool.and_eq_true, Bool.or_eq_true, Bool.not_eq_true', Bool.and_eq_false_iff, Bool.or_eq_false_iff, Bool.not_eq_false', decide_eq_true_eq, decide_eq_false_iff_not, eqNil] at hg; omega))
    refine aOps_callV (V := .tuple [decA (roundE d a m.toNat).1, .int .i64 (roundE d a m.toNat).2]) (by rfl) (by rfl) (c_Round w₀ _ d a m.toNat hl a0 a1 (by omega)) ?_
    simp (decide := true) only [ev, putD, Slots.put, Slots.get, if_true, if_false, true_and, ↓ap_move, pop_move, ↓ap_extract, pop_extract, pExt_tuple, List.length_cons, List.length_nil, List.getD_cons_zero, List.getD_cons_succ, List.getD_cons_zero, List.getD_cons_succ, Nat.zero_add, Nat.reduceAdd, decA]
    repeat (with_reducible refine And.intro ?_ ?_; · first | trivial | omega | (intro hg; simp only [Bool.and_eq_true, Bool.or_eq_true, Bool.not_eq_true', Bool.and_eq_false_iff, Bool.or_eq_false_iff, Bool.not_eq_false', decide_eq_true_eq, decide_eq_false_iff_not, eqNil] at hg; omega))
    refine aOps_alloc ze28 (cs := [.bool false, .str [], .int .i64 0]) (by rfl) fun k6q8 hk6q8 => ?_
    have ne_6q8_0q0 : k6q8 ≠ k0q0 := by simp only [AHeap.set_none] at hk6q8; simp only [hk6q8, ne_eq, not_false_eq_true]
    have ne_6q8_0q1 : k6q8 ≠ k0q1 := by simp only [AHeap.set_none] at hk6q8; simp only [hk6q8, ne_eq, not_false_eq_true]
    try have hf_6q8 : h k6q8 = none := by first | assumption | (simp only [AHeap.set_none] at hk6q8; simp only [hk6q8])
    refine aOps_store (by rfl) (by rfl) (by repeat (first | exact AHeap.set_same _ _ _ | assumption | refine (AHeap.set_ne _ _ (by first | assumption | exact Ne.symm (by assumption))).trans ?_)) sz28 (by rfl) (by rfl) (by first | exact Nat.le_refl _ | decide | (simp; done) | (simp; omega)) (Nat.zero_le _) (by rfl) ?_
    simp only [AHeap.set_set, AVal.cells]
    simp (decide := true) only [aOps_nil, ev, putD, Slots.put, Slots.get, Slots.keep, if_true, if_false, true_and, ↓ap_assign, pop_assign, setAt, List.set_cons_zero, List.set_cons_succ, Nat.zero_add, Nat.reduceAdd]
    repeat (with_reducible refine And.intro ?_ ?_; · first | trivial | omega | (intro hg; simp only [Bool.and_eq_true, Bool.or_eq_true, Bool.not_eq_true', Bool.and_eq_false_iff, Bool.or_eq_false_iff, Bool.not_eq_false', decide_eq_true_eq, decide_eq_false_iff_not, eqNil] at hg; omega))
    apply hK; clear hK K
    -- region 7  law.go:299
    refine awp_rseq [2, 3, 4, 7, 8, 9, 11, 13] (by rfl) fun K hK => ?_
    simp (decide := true) only [ev, absV, absS, putD, Slots.put, Slots.get, if_true, if_false, true_and, ↓ap_loadL, apL_mk, pLoad_agg ag28 sz28, ↓ap_indexAddrL, pIndexAddr_ptr Tryd.underlying49 sz3, pLoad_one ag3, rd_ne', ne_eq, not_false_eq_true, ne_0q1_0q0.symm, ne_6q8_0q0.symm, ne_6q8_0q1.symm, rd_any, cellsAt, List.getD_cons_zero, List.getD_cons_succ, Nat.zero_add, Nat.reduceAdd, lv_bool, lv_int, lv_str, allLive, Bool.and_true, Int.reduceToNat, Nat.reduceMul]
    repeat (with_reducible refine And.intro ?_ ?_; · first | trivial | omega | (intro hg; simp only [Bool.and_eq_true, Bool.or_eq_true, Bool.not_eq_true', Bool.and_eq_false_iff, Bool.or_eq_false_iff, Bool.not_eq_false', decide_eq_true_eq, decide_eq_false_iff_not, eqNil] at hg; omega))
    refine aOps_callV (V := .tuple [.bool (fitsE d b a).1, .int .i64 (fitsE d b a).2]) (by rfl) (by rfl) (c_Fits w₀ _ d b a hl b0 b1) ?_
    simp (decide := true) only [aOps_nil, ev, putD, Slots.put, Slots.get, Slots.keep, if_true, if_false, true_and, ↓ap_move, pop_move, ↓ap_extract, pop_extract, pExt_tuple, List.length_cons, List.length_nil, List.getD_cons_zero, List.getD_cons_succ, ↓ap_assign, pop_assign, List.getD_cons_zero, List.getD_cons_succ, Nat.zero_add, Nat.reduceAdd]
    repeat (with_reducible refine And.intro ?_ ?_; · first | trivial | omega | (intro hg; simp only [Bool.and_eq_true, Bool.or_eq_true, Bool.not_eq_true', Bool.and_eq_false_iff, Bool.or_eq_false_iff, Bool.not_eq_false', decide_eq_true_eq, decide_eq_false_iff_not, eqNil] at hg; omega))
    apply hK; clear hK K
    -- region 8  law.go:300
    refine awp_rseq [2, 3, 4, 7, 8, 9, 11, 13, 15] (by rfl) fun K hK => ?_
    simp (decide := true) only [ev, absV, absS, putD, Slots.put, Slots.get, if_true, if_false, true_and, ↓ap_loadL, apL_mk, pLoad_agg ag28 sz28, ↓ap_indexAddrL, pIndexAddr_ptr Tryd.underlying49 sz3, pLoad_one ag3, rd_ne', ne_eq, not_false_eq_true, ne_0q1_0q0.symm, ne_6q8_0q0.symm, ne_6q8_0q1.symm, rd_any, cellsAt, List.getD_cons_zero, List.getD_cons_succ, Nat.zero_add, Nat.reduceAdd, lv_bool, lv_int, lv_str, allLive, Bool.and_true, Int.reduceToNat, Nat.reduceMul]
    repeat (with_reducible refine And.intro ?_ ?_; · first | trivial | omega | (intro hg; simp only [Bool.and_eq_true, Bool.or_eq_true, Bool.not_eq_true', Bool.and_eq_false_iff, Bool.or_eq_false_iff, Bool.not_eq_false', decide_eq_true_eq, decide_eq_false_iff_not, eqNil] at hg; omega))
    refine aOps_callV (V := .tuple [decA (lowE d b a).1, .int .i64 (lowE d b a).2]) (by rfl) (by rfl) (c_Low w₀ _ d b a hl b0 b1) ?_
    simp (decide := true) only [ev, putD, Slots.put, Slots.get, if_true, if_false, true_and, ↓ap_move, pop_move, ↓ap_extract, pop_extract, pExt_tuple, List.length_cons, List.length_nil, List.getD_cons_zero, List.getD_cons_succ, List.getD_cons_zero, List.getD_cons_succ, Nat.zero_add, Nat.reduceAdd, decA]
    repeat (with_reducible refine And.intro ?_ ?_; · first | trivial | omega | (intro hg; simp only [Bool.and_eq_true, Bool.or_eq_true, Bool.not_eq_true', Bool.and_eq_false_iff, Bool.or_eq_false_iff, Bool.not_eq_false', decide_eq_true_eq, decide_eq_false_iff_not, eqNil] at hg; omega))
    refine aOps_alloc ze28 (cs := [.bool false, .str [], .int .i64 0]) (by rfl) fun k8q9 hk8q9 => ?_
    have ne_8q9_0q0 : k8q9 ≠ k0q0 := by simp only [AHeap.set_none] at hk8q9; simp only [hk8q9, ne_eq, not_false_eq_true]
    have ne_8q9_0q1 : k8q9 ≠ k0q1 := by simp only [AHeap.set_none] at hk8q9; simp only [hk8q9, ne_eq, not_false_eq_true]
    have ne_8q9_6q8 : k8q9 ≠ k6q8 := by simp only [AHeap.set_none] at hk8q9; simp only [hk8q9, ne_eq, not_false_eq_true]
    try have hf_8q9 : h k8q9 = none := by first | assumption | (simp only [AHeap.set_none] at hk8q9; simp only [hk8q9])
    refine aOps_store (by rfl) (by rfl) (by repeat (first | exact AHeap.set_same _ _ _ | assumption | refine (AHeap.set_ne _ _ (by first | assumption | exact Ne.symm (by assumption))).trans ?_)) sz28 (by rfl) (by rfl) (by first | exact Nat.le_refl _ | decide | (simp; done) | (simp; omega)) (Nat.zero_le _) (by rfl) ?_
    simp only [AHeap.set_set, AVal.cells]
    simp (decide := true) only [aOps_nil, ev, putD, Slots.put, Slots.get, Slots.keep, if_true, if_false, true_and, ↓ap_assign, pop_assign, setAt, List.set_cons_zero, List.set_cons_succ, Nat.zero_add, Nat.reduceAdd]
    repeat (with_reducible refine And.intro ?_ ?_; · first | trivial | omega | (intro hg; simp only [Bool.and_eq_true, Bool.or_eq_true, Bool.not_eq_true', Bool.and_eq_false_iff, Bool.or_eq_false_iff, Bool.not_eq_false', decide_eq_true_eq, decide_eq_false_iff_not, eqNil] at hg; omega))
    apply hK; clear hK K
    -- region 9  law.go:301
    refine awp_rseq [2, 7, 8, 9, 11, 13, 15, 17] (by rfl) fun K hK => ?_
    simp (decide := true) only [ev, absV, absS, putD, Slots.put, Slots.get, if_true, if_false, true_and, ↓ap_loadL, apL_mk, pLoad_agg ag28 sz28, ↓ap_indexAddrL, pIndexAddr_ptr Tryd.underlying49 sz3, pLoad_one ag3, rd_ne', ne_eq, not_false_eq_true, ne_0q1_0q0.symm, ne_6q8_0q0.symm, ne_6q8_0q1.symm, ne_8q9_0q0.symm, ne_8q9_0q1.symm, rd_any, cellsAt, List.getD_cons_zero, List.getD_cons_succ, Nat.zero_add, Nat.reduceAdd, lv_bool, lv_int, lv_str, allLive, Bool.and_true, Int.reduceToNat, Nat.reduceMul]
    repeat (with_reducible refine And.intro ?_ ?_; · first | trivial | omega | (intro hg; simp only [Bool.and_eq_true, Bool.or_eq_true, Bool.not_eq_true', Bool.and_eq_false_iff, Bool.or_eq_false_iff, Bool.not_eq_false', decide_eq_true_eq, decide_eq_false_iff_not, eqNil] at hg; omega))
    refine aOps_callV (V := .tuple [.str (digitsE d b a).1, .int .i64 (digitsE d b a).2]) (by rfl) (by rfl) (c_Digits w₀ _ d b a hl b0 b1) ?_
    simp (decide := true) only [aOps_nil, ev, putD, Slots.put, Slots.get, Slots.keep, if_true, if_false, true_and, ↓ap_move, pop_move, ↓ap_extract, pop_extract, pExt_tuple, List.length_cons, List.length_nil, List.getD_cons_zero, List.getD_cons_succ, ↓ap_assign, pop_assign, List.getD_cons_zero, List.getD_cons_succ, Nat.zero_add, Nat.reduceAdd]
    repeat (with_reducible refine And.intro ?_ ?_; · first | trivial | omega | (intro hg; simp only [Bool.and_eq_true, Bool.or_eq_true, Bool.not_eq_true', Bool.and_eq_false_iff, Bool.or_eq_false_iff, Bool.not_eq_false', decide_eq_true_eq, decide_eq_false_iff_not, eqNil] at hg; omega))
    apply hK; clear hK K
    refine awp_seq ?_
    -- region 10  law.go:302
    refine awp_rseq [7, 8, 9, 13, 15, 17, 90] (by rfl) fun K hK => ?_
    simp (decide := true) only [aOps_nil, ev, absV, absS, putD, Slots.put, Slots.get, Slots.keep, if_true, if_false, true_and, ↓ap_move, pop_move, ↓ap_binOp, pop_binOp, pBinX_int, pI_eql, ↓ap_unOp, pop_unOp, pU_not, ↓ag_move, agP, agQ_some, nthDst, gKnown_bool, guardB_bool_false, implies_true, Bool.not_not, ↓ag_unOp, cv_un, cp_un, ↓ap_pick, pop_pick, pPick_bool, pickV_cond_r, pickV_cond_rn, pickV_or, ↓ag_binOp, cv_binl, cp_binl, pI_gtr, pBinX_bne, Tryd.underlying4]
    try simp (disch := omega) only [wrap_i64, wrap_u8]
    repeat (with_reducible refine And.intro ?_ ?_; · first | trivial | omega | (intro hg; simp only [Bool.and_eq_true, Bool.or_eq_true, Bool.not_eq_true', Bool.and_eq_false_iff, Bool.or_eq_false_iff, Bool.not_eq_false', decide_eq_true_eq, decide_eq_false_iff_not, eqNil] at hg; omega))
    apply hK; clear hK K
    refine awp_cond (b := _) rfl (fun hb2 => ?_) (fun hb2 => ?_)
    · try simp only [Bool.not_eq_true'] at hb2
      -- region 11  law.go:303
      refine awp_rseq [6] (by rfl) fun K hK => ?_
      simp (decide := true) only [aOps_nil, ev, absV, absS, putD, Slots.put, Slots.keep, if_true, if_false, true_and, ↓ap_assign, pop_assign]
      repeat (with_reducible refine And.intro ?_ ?_; · first | trivial | omega | (intro hg; simp only [Bool.and_eq_true, Bool.or_eq_true, Bool.not_eq_true', Bool.and_eq_false_iff, Bool.or_eq_false_iff, Bool.not_eq_false', decide_eq_true_eq, decide_eq_false_iff_not, eqNil] at hg; omega))
      apply hK; clear hK K
      refine awp_ret ?_
      try simp only [thenA_ret]
      refine retA_ret h (by repeat (first | exact Sub.refl _ | refine Sub.trans_set ?_ (by assumption))) (resPre_tmp (resPre_nil)) ?_
      simp (decide := true) only [Slots.get, if_true, and_true, resOf_one]
      exfalso
      revert hb2
      simp only [e1]
      by_cases c1 : checkE d = 0 <;> by_cases c2 : -62 ≤ a <;> by_cases c3 : a ≤ 62 <;> by_cases c4 : (m.toNat : Int) ≤ 7 <;> simp [c1, c2, c3, c4] <;> omega
    · try simp only [Bool.not_eq_false'] at hb2
      refine awp_skip ?_
      change Awp _ _ _ _ _ _ _
      -- region 12  law.go:305
      refine awp_rseq [13, 15, 17, 18] (by rfl) fun K hK => ?_
      simp (decide := true) only [aOps_nil, ev, absV, absS, putD, Slots.put, Slots.get, Slots.keep, if_true, if_false, true_and, ↓ap_move, pop_move, ↓ap_unOp, pop_unOp, pU_not, ↓ag_move, agP, agQ_some, nthDst, gKnown_bool, guardB_bool_false, implies_true, Bool.not_not, ↓ag_unOp, cv_un, cp_un, ↓ap_pick, pop_pick, pPick_bool, pickV_cond_r, pickV_cond_rn, pickV_or, ↓ap_assign, pop_assign]
      try simp (disch := omega) only [wrap_i64, wrap_u8]
      repeat (with_reducible refine And.intro ?_ ?_; · first | trivial | omega | (intro hg; simp only [Bool.and_eq_true, Bool.or_eq_true, Bool.not_eq_true', Bool.and_eq_false_iff, Bool.or_eq_false_iff, Bool.not_eq_false', decide_eq_true_eq, decide_eq_false_iff_not, eqNil] at hg; omega))
      apply hK; clear hK K
      -- region 13  law.go:306
      refine awp_rseq [6] (by rfl) fun K hK => ?_
      simp (decide := true) only [ev, absV, absS, putD, Slots.put, Slots.get, if_true, if_false, true_and, ↓ap_move, pop_move, ↓ap_binOp, pop_binOp, pBinX_int, pI_eql, pBinX_beq, Tryd.underlying4, ↓ag_move, agP, agQ_some, nthDst, gKnown_bool, guardB_bool_true, implies_true, ↓ag_binOp, cv_binl, cv_binr, cp_binl, cp_binr, ↓ap_pick, pop_pick, pPick_bool, pickV_cond_l, pickV_and]
      repeat (with_reducible refine And.intro ?_ ?_; · first | trivial | omega | (intro hg; simp only [Bool.and_eq_true, Bool.or_eq_true, Bool.not_eq_true', Bool.and_eq_false_iff, Bool.or_eq_false_iff, Bool.not_eq_false', decide_eq_true_eq, decide_eq_false_iff_not, eqNil] at hg; omega))
      first
      | (refine aOps_yes (by rfl) ?_; refine aOps_callV (V := .bool true) (by rfl) (by rfl) (c_lives w₀ ht _) ?_)
      | (refine aOps_gcall (V := .bool true) (f := _) (cap := _) (xs := _) rfl (fun hg => ⟨rfl, ?_⟩) (fun hg => c_lives w₀ ht _) ?_; · (simp (decide := true) only [gv, nthDst, Slots.get, if_true, if_false, guardB_bool_true] at hg; simp (decide := true) only [evs, hg, List.append_nil, List.map_nil]))
      simp (decide := true) only [aOps_nil, ev, absV, absS, putD, Slots.put, Slots.get, Slots.keep, if_true, if_false, true_and, gv, nthDst, guardB_bool_true, ↓ap_pick, pop_pick, pPick_bool, pickV_cond_l, pickV_and, ↓ap_assign, pop_assign, Bool.and_true]
      repeat (with_reducible refine And.intro ?_ ?_; · first | trivial | omega | (intro hg; simp only [Bool.and_eq_true, Bool.or_eq_true, Bool.not_eq_true', Bool.and_eq_false_iff, Bool.or_eq_false_iff, Bool.not_eq_false', decide_eq_true_eq, decide_eq_false_iff_not, eqNil] at hg; omega))
      apply hK; clear hK K
      refine awp_ret ?_
      try simp only [thenA_ret, inBlockA_ret]
      refine retA_ret h (by repeat (first | exact Sub.refl _ | refine Sub.trans_set ?_ (by assumption))) (resPre_tmp (resPre_nil)) ?_
      simp (decide := true) only [Slots.get, if_true, and_true, resOf_one]
      simp only [e2, e3, e4]
      by_cases c1 : checkE d = 0 <;> by_cases c2 : -62 ≤ a <;> by_cases c3 : a ≤ 62 <;> by_cases c4 : 1 ≤ b <;> by_cases c5 : b ≤ 62 <;> simp [c1, c2, c3, c4, c5]
end Go.Proofs.YtnaioficflbioaaDoor
