/-
  Contract: the law's package checks the chapter's examples: it answers true.
  Conditions: none.
-/
import Derived.Test.YtmnlmfiokbnhhaaChI
set_option linter.unusedSimpArgs false
set_option linter.unusedVariables false
namespace Go.Proofs.Ytmnlmfiokbnhhaa
open Go.AM
open Go.Proofs
set_option maxRecDepth 100000

theorem c_lives (w₀ : World) (h : AHeap) : ACall Try.prog w₀ 9 [] h (fun v h' => v = .bool true ∧ h' = h) := by
  refine acall_intro (n := 160) (rs := [.tmp 0]) Try.func9 rfl rfl rfl rfl (Nat.le_of_ble_eq_true rfl) ?_
  simp only [initSlots]
  -- region 0  law.go:18
  refine awp_rseq [] (by rfl) fun K hK => ?_
  simp (decide := true) only [aOps_nil, ev, absV, absS, putD, Slots.put, Slots.get, Slots.keep, if_true, if_false, List.contains_cons, List.contains_nil, true_and, and_true, ↓ap_assign, pop_assign, decide_true, decide_false, Bool.not_false, Bool.not_true, condV_true, condV_false, forall_const, Bool.and_true, Bool.and_false, Bool.true_and, Bool.false_and, Bool.or_true, Bool.or_false, Bool.true_or, Bool.false_or, pickV_bool, cond_true, cond_false]
  repeat (with_reducible refine And.intro ?_ ?_; · first | trivial | omega | (intro hg; simp only [Bool.and_eq_true, Bool.or_eq_true, Bool.not_eq_true', Bool.and_eq_false_iff, Bool.or_eq_false_iff, Bool.not_eq_false', decide_eq_true_eq, decide_eq_false_iff_not, eqNil] at hg; omega))
  apply hK; clear hK K
  refine awp_seq ?_
  -- region 1  law.go:19
  refine awp_rseq [43] (by rfl) fun K hK => ?_
  refine aOps_callV (V := .bool true) (by rfl) (by rfl) ((c_isdigits w₀ h [48, 55] (by decide)).val (by kernel_rfl)) ?_
  simp (decide := true) only [aOps_nil, ev, absV, absS, putD, Slots.put, Slots.get, Slots.keep, if_true, if_false, List.contains_cons, List.contains_nil, true_and, and_true, ↓ap_unOp, pop_unOp, pU_not, ↓ap_move, pop_move, decide_true, decide_false, Bool.not_false, Bool.not_true, condV_true, condV_false, forall_const, Bool.and_true, Bool.and_false, Bool.true_and, Bool.false_and, Bool.or_true, Bool.or_false, Bool.true_or, Bool.false_or, pickV_bool, cond_true, cond_false]
  try simp (disch := omega) only [wrap_i64, wrap_u8]
  repeat (with_reducible refine And.intro ?_ ?_; · first | trivial | omega | (intro hg; simp only [Bool.and_eq_true, Bool.or_eq_true, Bool.not_eq_true', Bool.and_eq_false_iff, Bool.or_eq_false_iff, Bool.not_eq_false', decide_eq_true_eq, decide_eq_false_iff_not, eqNil] at hg; omega))
  refine aOps_yes (by rfl) ?_
  refine aOps_callV (V := .bool false) (by rfl) (by rfl) ((c_isdigits w₀ h [] (by decide)).val (by kernel_rfl)) ?_
  simp (decide := true) only [aOps_nil, ev, absV, absS, putD, Slots.put, Slots.get, Slots.keep, if_true, if_false, List.contains_cons, List.contains_nil, true_and, and_true, ↓ap_pick, pop_pick, pPick_bool, pickV_cond_l, pickV_cond_r, pickV_cond_rn, cp_nest1, cp_nest2, cp_nest3, cp_nest4, pickV_and, pickV_or, ↓ap_move, pop_move, decide_true, decide_false, Bool.not_false, Bool.not_true, condV_true, condV_false, forall_const, Bool.and_true, Bool.and_false, Bool.true_and, Bool.false_and, Bool.or_true, Bool.or_false, Bool.true_or, Bool.false_or, pickV_bool, cond_true, cond_false]
  repeat (with_reducible refine And.intro ?_ ?_; · first | trivial | omega | (intro hg; simp only [Bool.and_eq_true, Bool.or_eq_true, Bool.not_eq_true', Bool.and_eq_false_iff, Bool.or_eq_false_iff, Bool.not_eq_false', decide_eq_true_eq, decide_eq_false_iff_not, eqNil] at hg; omega))
  refine aOps_yes (by rfl) ?_
  refine aOps_callV (V := .bool false) (by rfl) (by rfl) ((c_isdigits w₀ h [49, 65] (by decide)).val (by kernel_rfl)) ?_
  simp (decide := true) only [aOps_nil, ev, absV, absS, putD, Slots.put, Slots.get, Slots.keep, if_true, if_false, List.contains_cons, List.contains_nil, true_and, and_true, ↓ap_pick, pop_pick, pPick_bool, pickV_cond_l, pickV_cond_r, pickV_cond_rn, cp_nest1, cp_nest2, cp_nest3, cp_nest4, pickV_and, pickV_or, ↓ap_move, pop_move, decide_true, decide_false, Bool.not_false, Bool.not_true, condV_true, condV_false, forall_const, Bool.and_true, Bool.and_false, Bool.true_and, Bool.false_and, Bool.or_true, Bool.or_false, Bool.true_or, Bool.false_or, pickV_bool, cond_true, cond_false]
  repeat (with_reducible refine And.intro ?_ ?_; · first | trivial | omega | (intro hg; simp only [Bool.and_eq_true, Bool.or_eq_true, Bool.not_eq_true', Bool.and_eq_false_iff, Bool.or_eq_false_iff, Bool.not_eq_false', decide_eq_true_eq, decide_eq_false_iff_not, eqNil] at hg; omega))
  refine aOps_yes (by rfl) ?_
  refine aOps_callV (V := .bool true) (by rfl) (by rfl) ((c_isname w₀ h [65, 45, 49] (by decide)).val (by kernel_rfl)) ?_
  simp (decide := true) only [aOps_nil, ev, absV, absS, putD, Slots.put, Slots.get, Slots.keep, if_true, if_false, List.contains_cons, List.contains_nil, true_and, and_true, ↓ag_unOp, pop_unOp, agP, agQ_some, gv, nthDst, gKnown_bool, gKnown_cond, guardB_cond, guardB_bool_true, guardB_bool_false, cv_cv, implies_true, Bool.not_not, decide_true, decide_false, Bool.not_false, Bool.not_true, condV_true, condV_false, forall_const, Bool.and_true, Bool.and_false, Bool.true_and, Bool.false_and, Bool.or_true, Bool.or_false, Bool.true_or, Bool.false_or, pU_not, cv_un, cp_un, ↓ap_pick, pop_pick, pPick_bool, pickV_cond_l, pickV_cond_r, pickV_cond_rn, cp_nest1, cp_nest2, cp_nest3, cp_nest4, pickV_and, pickV_or, ↓ap_move, pop_move, decide_true, decide_false, Bool.not_false, Bool.not_true, condV_true, condV_false, forall_const, Bool.and_true, Bool.and_false, Bool.true_and, Bool.false_and, Bool.or_true, Bool.or_false, Bool.true_or, Bool.false_or, pickV_bool, cond_true, cond_false]
  try simp (disch := omega) only [wrap_i64, wrap_u8]
  repeat (with_reducible refine And.intro ?_ ?_; · first | trivial | omega | (intro hg; simp only [Bool.and_eq_true, Bool.or_eq_true, Bool.not_eq_true', Bool.and_eq_false_iff, Bool.or_eq_false_iff, Bool.not_eq_false', decide_eq_true_eq, decide_eq_false_iff_not, eqNil] at hg; omega))
  refine aOps_yes (by rfl) ?_
  refine aOps_callV (V := .bool true) (by rfl) (by rfl) ((c_isname w₀ h [49, 65] (by decide)).val (by kernel_rfl)) ?_
  simp (decide := true) only [aOps_nil, ev, absV, absS, putD, Slots.put, Slots.get, Slots.keep, if_true, if_false, List.contains_cons, List.contains_nil, true_and, and_true, ↓ag_unOp, pop_unOp, agP, agQ_some, gv, nthDst, gKnown_bool, gKnown_cond, guardB_cond, guardB_bool_true, guardB_bool_false, cv_cv, implies_true, Bool.not_not, decide_true, decide_false, Bool.not_false, Bool.not_true, condV_true, condV_false, forall_const, Bool.and_true, Bool.and_false, Bool.true_and, Bool.false_and, Bool.or_true, Bool.or_false, Bool.true_or, Bool.false_or, pU_not, cv_un, cp_un, ↓ap_pick, pop_pick, pPick_bool, pickV_cond_l, pickV_cond_r, pickV_cond_rn, cp_nest1, cp_nest2, cp_nest3, cp_nest4, pickV_and, pickV_or, ↓ap_move, pop_move, decide_true, decide_false, Bool.not_false, Bool.not_true, condV_true, condV_false, forall_const, Bool.and_true, Bool.and_false, Bool.true_and, Bool.false_and, Bool.or_true, Bool.or_false, Bool.true_or, Bool.false_or, pickV_bool, cond_true, cond_false]
  try simp (disch := omega) only [wrap_i64, wrap_u8]
  repeat (with_reducible refine And.intro ?_ ?_; · first | trivial | omega | (intro hg; simp only [Bool.and_eq_true, Bool.or_eq_true, Bool.not_eq_true', Bool.and_eq_false_iff, Bool.or_eq_false_iff, Bool.not_eq_false', decide_eq_true_eq, decide_eq_false_iff_not, eqNil] at hg; omega))
  refine aOps_yes (by rfl) ?_
  refine aOps_callV (V := .bool false) (by rfl) (by rfl) ((c_isname w₀ h [49, 50] (by decide)).val (by kernel_rfl)) ?_
  simp (decide := true) only [aOps_nil, ev, absV, absS, putD, Slots.put, Slots.get, Slots.keep, if_true, if_false, List.contains_cons, List.contains_nil, true_and, and_true, ↓ap_pick, pop_pick, pPick_bool, pickV_cond_l, pickV_cond_r, pickV_cond_rn, cp_nest1, cp_nest2, cp_nest3, cp_nest4, pickV_and, pickV_or, ↓ap_move, pop_move, decide_true, decide_false, Bool.not_false, Bool.not_true, condV_true, condV_false, forall_const, Bool.and_true, Bool.and_false, Bool.true_and, Bool.false_and, Bool.or_true, Bool.or_false, Bool.true_or, Bool.false_or, pickV_bool, cond_true, cond_false]
  repeat (with_reducible refine And.intro ?_ ?_; · first | trivial | omega | (intro hg; simp only [Bool.and_eq_true, Bool.or_eq_true, Bool.not_eq_true', Bool.and_eq_false_iff, Bool.or_eq_false_iff, Bool.not_eq_false', decide_eq_true_eq, decide_eq_false_iff_not, eqNil] at hg; omega))
  refine aOps_yes (by rfl) ?_
  refine aOps_callV (V := .bool false) (by rfl) (by rfl) ((c_isname w₀ h [65, 45] (by decide)).val (by kernel_rfl)) ?_
  simp (decide := true) only [aOps_nil, ev, absV, absS, putD, Slots.put, Slots.get, Slots.keep, if_true, if_false, List.contains_cons, List.contains_nil, true_and, and_true, ↓ap_pick, pop_pick, pPick_bool, pickV_cond_l, pickV_cond_r, pickV_cond_rn, cp_nest1, cp_nest2, cp_nest3, cp_nest4, pickV_and, pickV_or, ↓ap_move, pop_move, decide_true, decide_false, Bool.not_false, Bool.not_true, condV_true, condV_false, forall_const, Bool.and_true, Bool.and_false, Bool.true_and, Bool.false_and, Bool.or_true, Bool.or_false, Bool.true_or, Bool.false_or, pickV_bool, cond_true, cond_false]
  repeat (with_reducible refine And.intro ?_ ?_; · first | trivial | omega | (intro hg; simp only [Bool.and_eq_true, Bool.or_eq_true, Bool.not_eq_true', Bool.and_eq_false_iff, Bool.or_eq_false_iff, Bool.not_eq_false', decide_eq_true_eq, decide_eq_false_iff_not, eqNil] at hg; omega))
  refine aOps_yes (by rfl) ?_
  refine aOps_callV (V := .bool false) (by rfl) (by rfl) ((c_isname w₀ h [97] (by decide)).val (by kernel_rfl)) ?_
  simp (decide := true) only [aOps_nil, ev, absV, absS, putD, Slots.put, Slots.get, Slots.keep, if_true, if_false, List.contains_cons, List.contains_nil, true_and, and_true, ↓ap_pick, pop_pick, pPick_bool, pickV_cond_l, pickV_cond_r, pickV_cond_rn, cp_nest1, cp_nest2, cp_nest3, cp_nest4, pickV_and, pickV_or, ↓ap_move, pop_move, decide_true, decide_false, Bool.not_false, Bool.not_true, condV_true, condV_false, forall_const, Bool.and_true, Bool.and_false, Bool.true_and, Bool.false_and, Bool.or_true, Bool.or_false, Bool.true_or, Bool.false_or, pickV_bool, cond_true, cond_false]
  repeat (with_reducible refine And.intro ?_ ?_; · first | trivial | omega | (intro hg; simp only [Bool.and_eq_true, Bool.or_eq_true, Bool.not_eq_true', Bool.and_eq_false_iff, Bool.or_eq_false_iff, Bool.not_eq_false', decide_eq_true_eq, decide_eq_false_iff_not, eqNil] at hg; omega))
  refine aOps_yes (by rfl) ?_
  refine aOps_callV (V := .str [65, 90, 45, 57, 123]) (by rfl) (by rfl) ((c_fold w₀ h [97, 90, 45, 57, 123] (by decide)).val (by kernel_rfl)) ?_
  simp (decide := true) only [aOps_nil, ev, absV, absS, putD, Slots.put, Slots.get, Slots.keep, if_true, if_false, List.contains_cons, List.contains_nil, true_and, and_true, ↓ag_binOp, pop_binOp, agP, agQ_some, gv, nthDst, gKnown_bool, gKnown_cond, guardB_cond, guardB_bool_true, guardB_bool_false, cv_cv, implies_true, Bool.not_not, decide_true, decide_false, Bool.not_false, Bool.not_true, condV_true, condV_false, forall_const, Bool.and_true, Bool.and_false, Bool.true_and, Bool.false_and, Bool.or_true, Bool.or_false, Bool.true_or, Bool.false_or, cv_binl, cv_binr, cp_binl, cp_binr, pBinX_str, pS_neq, ↓ap_pick, pop_pick, pPick_bool, pickV_cond_l, pickV_cond_r, pickV_cond_rn, cp_nest1, cp_nest2, cp_nest3, cp_nest4, pickV_and, pickV_or, decide_true, decide_false, Bool.not_false, Bool.not_true, condV_true, condV_false, forall_const, Bool.and_true, Bool.and_false, Bool.true_and, Bool.false_and, Bool.or_true, Bool.or_false, Bool.true_or, Bool.false_or, pickV_bool, cond_true, cond_false]
  repeat (with_reducible refine And.intro ?_ ?_; · first | trivial | omega | (intro hg; simp only [Bool.and_eq_true, Bool.or_eq_true, Bool.not_eq_true', Bool.and_eq_false_iff, Bool.or_eq_false_iff, Bool.not_eq_false', decide_eq_true_eq, decide_eq_false_iff_not, eqNil] at hg; omega))
  apply hK; clear hK K
  refine awp_cond (b := _) rfl (fun hb1 => ?_) (fun hb1 => ?_)
  · simp at hb1
  · try simp only [decide_eq_true_eq, decide_eq_false_iff_not, Bool.not_eq_true', Bool.not_eq_false', Bool.and_eq_true, Bool.and_eq_false_iff, Bool.or_eq_true, Bool.or_eq_false_iff, Bool.true_eq, Bool.false_eq, reduceCtorEq] at hb1
    refine awp_skip ?_
    change Awp _ _ _ _ _ _ _
    -- region 3  law.go:22
    refine awp_rseq [1, 2] (by rfl) fun K hK => ?_
    refine aOps_buildSlice (cs := byteCells [97, 98]) (by kernel_rfl) fun k3q0 hk3q0 => ?_
    refine aOps_same Try.underlying25 Try.underlying5 (by rfl) (by decide) (AHeap.set_same _ _ _) rfl ?_
    refine aOps_call (by rfl) (by rfl) (c_fillOk w₀ _ _ [97, 98] 5 (IsB.own (AHeap.set_same _ _ _) rfl (Nat.le_refl _)) (by decide) (by decide) (.inl (by decide))) fun x3q2 h3q2 hx3q2 => ?_
    obtain ⟨a, ha, rfl, rfl⟩ := hx3q2
    simp (decide := true) only [aOps_nil, ev, absV, absS, putD, Slots.put, Slots.get, Slots.keep, if_true, if_false, List.contains_cons, List.contains_nil, true_and, and_true, ↓ap_move, pop_move, ↓ap_extract, pop_extract, pExt_tuple, List.length_cons, List.length_nil, List.getD_cons_zero, List.getD_cons_succ, ↓ap_assign, pop_assign, decide_true, decide_false, Bool.not_false, Bool.not_true, condV_true, condV_false, forall_const, Bool.and_true, Bool.and_false, Bool.true_and, Bool.false_and, Bool.or_true, Bool.or_false, Bool.true_or, Bool.false_or, pickV_bool, cond_true, cond_false]
    repeat (with_reducible refine And.intro ?_ ?_; · first | trivial | omega | (intro hg; simp only [Bool.and_eq_true, Bool.or_eq_true, Bool.not_eq_true', Bool.and_eq_false_iff, Bool.or_eq_false_iff, Bool.not_eq_false', decide_eq_true_eq, decide_eq_false_iff_not, eqNil] at hg; omega))
    apply hK; clear hK K
    -- region 4  law.go:23
    refine awp_rseq [1, 2, 4] (by rfl) fun K hK => ?_
    refine aOps_call (by rfl) (by rfl) (c_fillOk w₀ _ _ [] 0 .nil (by decide) (by decide) (.inr rfl)) fun x4q0 h4q0 hx4q0 => ?_
    obtain ⟨f, hf, rfl, rfl⟩ := hx4q0
    simp (decide := true) only [aOps_nil, ev, absV, absS, putD, Slots.put, Slots.get, Slots.keep, if_true, if_false, List.contains_cons, List.contains_nil, true_and, and_true, ↓ap_move, pop_move, ↓ap_extract, pop_extract, pExt_tuple, List.length_cons, List.length_nil, List.getD_cons_zero, List.getD_cons_succ, ↓ap_assign, pop_assign, decide_true, decide_false, Bool.not_false, Bool.not_true, condV_true, condV_false, forall_const, Bool.and_true, Bool.and_false, Bool.true_and, Bool.false_and, Bool.or_true, Bool.or_false, Bool.true_or, Bool.false_or, pickV_bool, cond_true, cond_false]
    repeat (with_reducible refine And.intro ?_ ?_; · first | trivial | omega | (intro hg; simp only [Bool.and_eq_true, Bool.or_eq_true, Bool.not_eq_true', Bool.and_eq_false_iff, Bool.or_eq_false_iff, Bool.not_eq_false', decide_eq_true_eq, decide_eq_false_iff_not, eqNil] at hg; omega))
    apply hK; clear hK K
    -- region 5  law.go:24
    refine awp_rseq [1, 2, 4, 6] (by rfl) fun K hK => ?_
    refine aOps_callV (V := .tuple [.nilSlice, .int .i64 5]) (by rfl) (by rfl) (c_fillNil w₀ _ 1 (by decide) (by decide)) ?_
    simp (decide := true) only [aOps_nil, ev, absV, absS, putD, Slots.put, Slots.get, Slots.keep, if_true, if_false, List.contains_cons, List.contains_nil, true_and, and_true, ↓ap_move, pop_move, ↓ap_extract, pop_extract, pExt_tuple, List.length_cons, List.length_nil, List.getD_cons_zero, List.getD_cons_succ, ↓ap_assign, pop_assign, decide_true, decide_false, Bool.not_false, Bool.not_true, condV_true, condV_false, forall_const, Bool.and_true, Bool.and_false, Bool.true_and, Bool.false_and, Bool.or_true, Bool.or_false, Bool.true_or, Bool.false_or, pickV_bool, cond_true, cond_false]
    repeat (with_reducible refine And.intro ?_ ?_; · first | trivial | omega | (intro hg; simp only [Bool.and_eq_true, Bool.or_eq_true, Bool.not_eq_true', Bool.and_eq_false_iff, Bool.or_eq_false_iff, Bool.not_eq_false', decide_eq_true_eq, decide_eq_false_iff_not, eqNil] at hg; omega))
    apply hK; clear hK K
    -- region 6  law.go:25
    refine awp_rseq [1, 2, 4, 6, 7, 8] (by rfl) fun K hK => ?_
    refine aOps_buildSlice (cs := byteCells [97, 98, 99]) (by kernel_rfl) fun k6q0 hk6q0 => ?_
    refine aOps_same Try.underlying25 Try.underlying5 (by rfl) (by decide) (AHeap.set_same _ _ _) rfl ?_
    refine aOps_call (by rfl) (by rfl) (c_fitOk w₀ _ _ [97, 98, 99] 5 false (IsB.own (AHeap.set_same _ _ _) rfl (Nat.le_refl _)) (by decide) (by decide) (by decide)) fun x6q2 h6q2 hx6q2 => ?_
    obtain ⟨b, hb, rfl, rfl⟩ := hx6q2
    simp (decide := true) only [aOps_nil, ev, absV, absS, putD, Slots.put, Slots.get, Slots.keep, if_true, if_false, List.contains_cons, List.contains_nil, true_and, and_true, ↓ap_move, pop_move, ↓ap_extract, pop_extract, pExt_tuple, List.length_cons, List.length_nil, List.getD_cons_zero, List.getD_cons_succ, ↓ap_assign, pop_assign, decide_true, decide_false, Bool.not_false, Bool.not_true, condV_true, condV_false, forall_const, Bool.and_true, Bool.and_false, Bool.true_and, Bool.false_and, Bool.or_true, Bool.or_false, Bool.true_or, Bool.false_or, pickV_bool, cond_true, cond_false]
    repeat (with_reducible refine And.intro ?_ ?_; · first | trivial | omega | (intro hg; simp only [Bool.and_eq_true, Bool.or_eq_true, Bool.not_eq_true', Bool.and_eq_false_iff, Bool.or_eq_false_iff, Bool.not_eq_false', decide_eq_true_eq, decide_eq_false_iff_not, eqNil] at hg; omega))
    apply hK; clear hK K
    -- region 7  law.go:26
    refine awp_rseq [1, 2, 4, 6, 7, 8, 9, 10] (by rfl) fun K hK => ?_
    refine aOps_buildSlice (cs := byteCells [97, 98, 99]) (by kernel_rfl) fun k7q0 hk7q0 => ?_
    refine aOps_same Try.underlying25 Try.underlying5 (by rfl) (by decide) (AHeap.set_same _ _ _) rfl ?_
    refine aOps_call (by rfl) (by rfl) (c_fitOk w₀ _ _ [97, 98, 99] 2 false (IsB.own (AHeap.set_same _ _ _) rfl (Nat.le_refl _)) (by decide) (by decide) (by decide)) fun x7q2 h7q2 hx7q2 => ?_
    obtain ⟨c, hc, rfl, rfl⟩ := hx7q2
    simp (decide := true) only [aOps_nil, ev, absV, absS, putD, Slots.put, Slots.get, Slots.keep, if_true, if_false, List.contains_cons, List.contains_nil, true_and, and_true, ↓ap_move, pop_move, ↓ap_extract, pop_extract, pExt_tuple, List.length_cons, List.length_nil, List.getD_cons_zero, List.getD_cons_succ, ↓ap_assign, pop_assign, decide_true, decide_false, Bool.not_false, Bool.not_true, condV_true, condV_false, forall_const, Bool.and_true, Bool.and_false, Bool.true_and, Bool.false_and, Bool.or_true, Bool.or_false, Bool.true_or, Bool.false_or, pickV_bool, cond_true, cond_false]
    repeat (with_reducible refine And.intro ?_ ?_; · first | trivial | omega | (intro hg; simp only [Bool.and_eq_true, Bool.or_eq_true, Bool.not_eq_true', Bool.and_eq_false_iff, Bool.or_eq_false_iff, Bool.not_eq_false', decide_eq_true_eq, decide_eq_false_iff_not, eqNil] at hg; omega))
    apply hK; clear hK K
    -- region 8  law.go:27
    refine awp_rseq [1, 2, 4, 6, 7, 8, 9, 10, 11, 12] (by rfl) fun K hK => ?_
    refine aOps_buildSlice (cs := byteCells [97, 98, 99]) (by kernel_rfl) fun k8q0 hk8q0 => ?_
    refine aOps_same Try.underlying25 Try.underlying5 (by rfl) (by decide) (AHeap.set_same _ _ _) rfl ?_
    refine aOps_call (by rfl) (by rfl) (c_fitOk w₀ _ _ [97, 98, 99] 5 true (IsB.own (AHeap.set_same _ _ _) rfl (Nat.le_refl _)) (by decide) (by decide) (by decide)) fun x8q2 h8q2 hx8q2 => ?_
    obtain ⟨d, hd, rfl, rfl⟩ := hx8q2
    simp (decide := true) only [aOps_nil, ev, absV, absS, putD, Slots.put, Slots.get, Slots.keep, if_true, if_false, List.contains_cons, List.contains_nil, true_and, and_true, ↓ap_move, pop_move, ↓ap_extract, pop_extract, pExt_tuple, List.length_cons, List.length_nil, List.getD_cons_zero, List.getD_cons_succ, ↓ap_assign, pop_assign, decide_true, decide_false, Bool.not_false, Bool.not_true, condV_true, condV_false, forall_const, Bool.and_true, Bool.and_false, Bool.true_and, Bool.false_and, Bool.or_true, Bool.or_false, Bool.true_or, Bool.false_or, pickV_bool, cond_true, cond_false]
    repeat (with_reducible refine And.intro ?_ ?_; · first | trivial | omega | (intro hg; simp only [Bool.and_eq_true, Bool.or_eq_true, Bool.not_eq_true', Bool.and_eq_false_iff, Bool.or_eq_false_iff, Bool.not_eq_false', decide_eq_true_eq, decide_eq_false_iff_not, eqNil] at hg; omega))
    apply hK; clear hK K
    -- region 9  law.go:28
    refine awp_rseq [1, 2, 4, 6, 7, 8, 9, 10, 11, 12, 13, 14] (by rfl) fun K hK => ?_
    refine aOps_buildSlice (cs := byteCells [97, 98, 99]) (by kernel_rfl) fun k9q0 hk9q0 => ?_
    refine aOps_same Try.underlying25 Try.underlying5 (by rfl) (by decide) (AHeap.set_same _ _ _) rfl ?_
    refine aOps_call (by rfl) (by rfl) (c_fitOk w₀ _ _ [97, 98, 99] 2 true (IsB.own (AHeap.set_same _ _ _) rfl (Nat.le_refl _)) (by decide) (by decide) (by decide)) fun x9q2 h9q2 hx9q2 => ?_
    obtain ⟨k, hk, rfl, rfl⟩ := hx9q2
    simp (decide := true) only [aOps_nil, ev, absV, absS, putD, Slots.put, Slots.get, Slots.keep, if_true, if_false, List.contains_cons, List.contains_nil, true_and, and_true, ↓ap_move, pop_move, ↓ap_extract, pop_extract, pExt_tuple, List.length_cons, List.length_nil, List.getD_cons_zero, List.getD_cons_succ, ↓ap_assign, pop_assign, decide_true, decide_false, Bool.not_false, Bool.not_true, condV_true, condV_false, forall_const, Bool.and_true, Bool.and_false, Bool.true_and, Bool.false_and, Bool.or_true, Bool.or_false, Bool.true_or, Bool.false_or, pickV_bool, cond_true, cond_false]
    repeat (with_reducible refine And.intro ?_ ?_; · first | trivial | omega | (intro hg; simp only [Bool.and_eq_true, Bool.or_eq_true, Bool.not_eq_true', Bool.and_eq_false_iff, Bool.or_eq_false_iff, Bool.not_eq_false', decide_eq_true_eq, decide_eq_false_iff_not, eqNil] at hg; omega))
    apply hK; clear hK K
    refine awp_seq ?_
    -- region 10  law.go:29
    refine awp_rseq [129] (by rfl) fun K hK => ?_
    simp (decide := true) only [aOps_nil, ev, absV, absS, putD, Slots.put, Slots.get, Slots.keep, if_true, if_false, List.contains_cons, List.contains_nil, true_and, and_true, ↓ap_move, pop_move, ↓ap_binOp, pop_binOp, pBinX_int, pI_neq, ↓ag_move, agP, agQ_some, gv, nthDst, gKnown_bool, gKnown_cond, guardB_cond, guardB_bool_true, guardB_bool_false, cv_cv, implies_true, Bool.not_not, decide_true, decide_false, Bool.not_false, Bool.not_true, condV_true, condV_false, forall_const, Bool.and_true, Bool.and_false, Bool.true_and, Bool.false_and, Bool.or_true, Bool.or_false, Bool.true_or, Bool.false_or, ↓ag_binOp, cv_binl, cv_binr, cp_binl, cp_binr, ↓ap_pick, pop_pick, pPick_bool, pickV_cond_l, pickV_cond_r, pickV_cond_rn, cp_nest1, cp_nest2, cp_nest3, cp_nest4, pickV_and, pickV_or, decide_true, decide_false, Bool.not_false, Bool.not_true, condV_true, condV_false, forall_const, Bool.and_true, Bool.and_false, Bool.true_and, Bool.false_and, Bool.or_true, Bool.or_false, Bool.true_or, Bool.false_or, pickV_bool, cond_true, cond_false]
    repeat (with_reducible refine And.intro ?_ ?_; · first | trivial | omega | (intro hg; simp only [Bool.and_eq_true, Bool.or_eq_true, Bool.not_eq_true', Bool.and_eq_false_iff, Bool.or_eq_false_iff, Bool.not_eq_false', decide_eq_true_eq, decide_eq_false_iff_not, eqNil] at hg; omega))
    refine aOps_yes (by rfl) ?_
    refine aOps_callV (V := .int .i64 0) (by rfl) (by rfl) ((c_bytes w₀ _ _ (fillB [97, 98] 5) [97, 98, 97, 98, 97] ((IsB.own (AHeap.set_same _ a _) (by kernel_rfl) (Nat.le_refl _)).mono (by repeat (first | exact Sub.refl _ | refine Sub.trans ?_ (Sub.set (by assumption))))) (pCap_slice Try.underlying25 _ _ _ _)).val (by kernel_rfl)) ?_
    simp (decide := true) only [aOps_nil, ev, absV, absS, putD, Slots.put, Slots.get, Slots.keep, if_true, if_false, List.contains_cons, List.contains_nil, true_and, and_true, ↓ag_move, pop_move, agP, agQ_some, gv, nthDst, gKnown_bool, gKnown_cond, guardB_cond, guardB_bool_true, guardB_bool_false, cv_cv, implies_true, Bool.not_not, decide_true, decide_false, Bool.not_false, Bool.not_true, condV_true, condV_false, forall_const, Bool.and_true, Bool.and_false, Bool.true_and, Bool.false_and, Bool.or_true, Bool.or_false, Bool.true_or, Bool.false_or, decide_true, decide_false, Bool.not_false, Bool.not_true, condV_true, condV_false, forall_const, Bool.and_true, Bool.and_false, Bool.true_and, Bool.false_and, Bool.or_true, Bool.or_false, Bool.true_or, Bool.false_or, pickV_bool, cond_true, cond_false]
    repeat (with_reducible refine And.intro ?_ ?_; · first | trivial | omega | (intro hg; simp only [Bool.and_eq_true, Bool.or_eq_true, Bool.not_eq_true', Bool.and_eq_false_iff, Bool.or_eq_false_iff, Bool.not_eq_false', decide_eq_true_eq, decide_eq_false_iff_not, eqNil] at hg; omega))
    refine aOps_yes (by rfl) ?_
    refine aOps_callV (V := .int .i64 0) (by rfl) (by rfl) ((c_bytes w₀ _ _ (fitB [97, 98, 99] 5 false) [97, 98, 99, 32, 32] ((IsB.own (AHeap.set_same _ b _) (by kernel_rfl) (Nat.le_refl _)).mono (by repeat (first | exact Sub.refl _ | refine Sub.trans ?_ (Sub.set (by assumption))))) (pCap_slice Try.underlying25 _ _ _ _)).val (by kernel_rfl)) ?_
    simp (decide := true) only [aOps_nil, ev, absV, absS, putD, Slots.put, Slots.get, Slots.keep, if_true, if_false, List.contains_cons, List.contains_nil, true_and, and_true, ↓ag_binOp, pop_binOp, agP, agQ_some, gv, nthDst, gKnown_bool, gKnown_cond, guardB_cond, guardB_bool_true, guardB_bool_false, cv_cv, implies_true, Bool.not_not, decide_true, decide_false, Bool.not_false, Bool.not_true, condV_true, condV_false, forall_const, Bool.and_true, Bool.and_false, Bool.true_and, Bool.false_and, Bool.or_true, Bool.or_false, Bool.true_or, Bool.false_or, cv_binl, cv_binr, cp_binl, cp_binr, pBinX_int, pI_add, ↓ag_move, pop_move, decide_true, decide_false, Bool.not_false, Bool.not_true, condV_true, condV_false, forall_const, Bool.and_true, Bool.and_false, Bool.true_and, Bool.false_and, Bool.or_true, Bool.or_false, Bool.true_or, Bool.false_or, pickV_bool, cond_true, cond_false]
    try simp (disch := omega) only [wrap_i64, wrap_u8]
    repeat (with_reducible refine And.intro ?_ ?_; · first | trivial | omega | (intro hg; simp only [Bool.and_eq_true, Bool.or_eq_true, Bool.not_eq_true', Bool.and_eq_false_iff, Bool.or_eq_false_iff, Bool.not_eq_false', decide_eq_true_eq, decide_eq_false_iff_not, eqNil] at hg; omega))
    refine aOps_yes (by rfl) ?_
    refine aOps_callV (V := .int .i64 0) (by rfl) (by rfl) ((c_bytes w₀ _ _ (fitB [97, 98, 99] 2 false) [97, 98] ((IsB.own (AHeap.set_same _ c _) (by kernel_rfl) (Nat.le_refl _)).mono (by repeat (first | exact Sub.refl _ | refine Sub.trans ?_ (Sub.set (by assumption))))) (pCap_slice Try.underlying25 _ _ _ _)).val (by kernel_rfl)) ?_
    simp (decide := true) only [aOps_nil, ev, absV, absS, putD, Slots.put, Slots.get, Slots.keep, if_true, if_false, List.contains_cons, List.contains_nil, true_and, and_true, ↓ag_binOp, pop_binOp, agP, agQ_some, gv, nthDst, gKnown_bool, gKnown_cond, guardB_cond, guardB_bool_true, guardB_bool_false, cv_cv, implies_true, Bool.not_not, decide_true, decide_false, Bool.not_false, Bool.not_true, condV_true, condV_false, forall_const, Bool.and_true, Bool.and_false, Bool.true_and, Bool.false_and, Bool.or_true, Bool.or_false, Bool.true_or, Bool.false_or, cv_binl, cv_binr, cp_binl, cp_binr, pBinX_int, pI_add, ↓ag_move, pop_move, decide_true, decide_false, Bool.not_false, Bool.not_true, condV_true, condV_false, forall_const, Bool.and_true, Bool.and_false, Bool.true_and, Bool.false_and, Bool.or_true, Bool.or_false, Bool.true_or, Bool.false_or, pickV_bool, cond_true, cond_false]
    try simp (disch := omega) only [wrap_i64, wrap_u8]
    repeat (with_reducible refine And.intro ?_ ?_; · first | trivial | omega | (intro hg; simp only [Bool.and_eq_true, Bool.or_eq_true, Bool.not_eq_true', Bool.and_eq_false_iff, Bool.or_eq_false_iff, Bool.not_eq_false', decide_eq_true_eq, decide_eq_false_iff_not, eqNil] at hg; omega))
    refine aOps_yes (by rfl) ?_
    refine aOps_callV (V := .int .i64 0) (by rfl) (by rfl) ((c_bytes w₀ _ _ (fitB [97, 98, 99] 5 true) [32, 32, 97, 98, 99] ((IsB.own (AHeap.set_same _ d _) (by kernel_rfl) (Nat.le_refl _)).mono (by repeat (first | exact Sub.refl _ | refine Sub.trans ?_ (Sub.set (by assumption))))) (pCap_slice Try.underlying25 _ _ _ _)).val (by kernel_rfl)) ?_
    simp (decide := true) only [aOps_nil, ev, absV, absS, putD, Slots.put, Slots.get, Slots.keep, if_true, if_false, List.contains_cons, List.contains_nil, true_and, and_true, ↓ag_binOp, pop_binOp, agP, agQ_some, gv, nthDst, gKnown_bool, gKnown_cond, guardB_cond, guardB_bool_true, guardB_bool_false, cv_cv, implies_true, Bool.not_not, decide_true, decide_false, Bool.not_false, Bool.not_true, condV_true, condV_false, forall_const, Bool.and_true, Bool.and_false, Bool.true_and, Bool.false_and, Bool.or_true, Bool.or_false, Bool.true_or, Bool.false_or, cv_binl, cv_binr, cp_binl, cp_binr, pBinX_int, pI_add, ↓ag_move, pop_move, decide_true, decide_false, Bool.not_false, Bool.not_true, condV_true, condV_false, forall_const, Bool.and_true, Bool.and_false, Bool.true_and, Bool.false_and, Bool.or_true, Bool.or_false, Bool.true_or, Bool.false_or, pickV_bool, cond_true, cond_false]
    try simp (disch := omega) only [wrap_i64, wrap_u8]
    repeat (with_reducible refine And.intro ?_ ?_; · first | trivial | omega | (intro hg; simp only [Bool.and_eq_true, Bool.or_eq_true, Bool.not_eq_true', Bool.and_eq_false_iff, Bool.or_eq_false_iff, Bool.not_eq_false', decide_eq_true_eq, decide_eq_false_iff_not, eqNil] at hg; omega))
    refine aOps_yes (by rfl) ?_
    refine aOps_callV (V := .int .i64 0) (by rfl) (by rfl) ((c_bytes w₀ _ _ (fitB [97, 98, 99] 2 true) [98, 99] ((IsB.own (AHeap.set_same _ k _) (by kernel_rfl) (Nat.le_refl _)).mono (by repeat (first | exact Sub.refl _ | refine Sub.trans ?_ (Sub.set (by assumption))))) (pCap_slice Try.underlying25 _ _ _ _)).val (by kernel_rfl)) ?_
    simp (decide := true) only [aOps_nil, ev, absV, absS, putD, Slots.put, Slots.get, Slots.keep, if_true, if_false, List.contains_cons, List.contains_nil, true_and, and_true, ↓ag_binOp, pop_binOp, agP, agQ_some, gv, nthDst, gKnown_bool, gKnown_cond, guardB_cond, guardB_bool_true, guardB_bool_false, cv_cv, implies_true, Bool.not_not, decide_true, decide_false, Bool.not_false, Bool.not_true, condV_true, condV_false, forall_const, Bool.and_true, Bool.and_false, Bool.true_and, Bool.false_and, Bool.or_true, Bool.or_false, Bool.true_or, Bool.false_or, cv_binl, cv_binr, cp_binl, cp_binr, pBinX_int, pI_add, decide_true, decide_false, Bool.not_false, Bool.not_true, condV_true, condV_false, forall_const, Bool.and_true, Bool.and_false, Bool.true_and, Bool.false_and, Bool.or_true, Bool.or_false, Bool.true_or, Bool.false_or, pickV_bool, cond_true, cond_false]
    try simp (disch := omega) only [wrap_i64, wrap_u8]
    repeat (with_reducible refine And.intro ?_ ?_; · first | trivial | omega | (intro hg; simp only [Bool.and_eq_true, Bool.or_eq_true, Bool.not_eq_true', Bool.and_eq_false_iff, Bool.or_eq_false_iff, Bool.not_eq_false', decide_eq_true_eq, decide_eq_false_iff_not, eqNil] at hg; omega))
    refine aOps_yes (by rfl) ?_
    refine aOps_buildSlice (cs := byteCells [32, 97, 32, 32]) (by kernel_rfl) fun k10q41 hk10q41 => ?_
    refine aOps_yes (by rfl) ?_
    refine aOps_same Try.underlying25 Try.underlying5 (by rfl) (by decide) (AHeap.set_same _ _ _) rfl ?_
    refine aOps_yes (by rfl) ?_
    refine aOps_call (by rfl) (by rfl) (c_trim w₀ _ _ [32, 97, 32, 32] (IsB.own (AHeap.set_same _ _ _) rfl (Nat.le_refl _)) (by decide)) fun x10q43 h10q43 hx10q43 => ?_
    refine aOps_yes (by rfl) ?_
    refine aOps_callV (V := .int .i64 0) (by rfl) (by rfl) ((c_bytes w₀ _ _ [32, 97] [32, 97] hx10q43.isB (hx10q43.cap Try.underlying25)).val (by kernel_rfl)) ?_
    simp (decide := true) only [aOps_nil, ev, absV, absS, putD, Slots.put, Slots.get, Slots.keep, if_true, if_false, List.contains_cons, List.contains_nil, true_and, and_true, ↓ag_binOp, pop_binOp, agP, agQ_some, gv, nthDst, gKnown_bool, gKnown_cond, guardB_cond, guardB_bool_true, guardB_bool_false, cv_cv, implies_true, Bool.not_not, decide_true, decide_false, Bool.not_false, Bool.not_true, condV_true, condV_false, forall_const, Bool.and_true, Bool.and_false, Bool.true_and, Bool.false_and, Bool.or_true, Bool.or_false, Bool.true_or, Bool.false_or, cv_binl, cv_binr, cp_binl, cp_binr, pBinX_int, pI_add, pI_neq, ↓ap_pick, pop_pick, pPick_bool, pickV_cond_l, pickV_cond_r, pickV_cond_rn, cp_nest1, cp_nest2, cp_nest3, cp_nest4, pickV_and, pickV_or, decide_true, decide_false, Bool.not_false, Bool.not_true, condV_true, condV_false, forall_const, Bool.and_true, Bool.and_false, Bool.true_and, Bool.false_and, Bool.or_true, Bool.or_false, Bool.true_or, Bool.false_or, pickV_bool, cond_true, cond_false]
    try simp (disch := omega) only [wrap_i64, wrap_u8]
    repeat (with_reducible refine And.intro ?_ ?_; · first | trivial | omega | (intro hg; simp only [Bool.and_eq_true, Bool.or_eq_true, Bool.not_eq_true', Bool.and_eq_false_iff, Bool.or_eq_false_iff, Bool.not_eq_false', decide_eq_true_eq, decide_eq_false_iff_not, eqNil] at hg; omega))
    apply hK; clear hK K
    refine awp_cond (b := _) rfl (fun hb2 => ?_) (fun hb2 => ?_)
    · simp at hb2
    · try simp only [decide_eq_true_eq, decide_eq_false_iff_not, Bool.not_eq_true', Bool.not_eq_false', Bool.and_eq_true, Bool.and_eq_false_iff, Bool.or_eq_true, Bool.or_eq_false_iff, Bool.true_eq, Bool.false_eq, reduceCtorEq] at hb2
      refine awp_skip ?_
      change Awp _ _ _ _ _ _ _
      -- region 12  law.go:32
      refine awp_rseq [0] (by rfl) fun K hK => ?_
      refine aOps_buildSlice (cs := byteCells [65, 66]) (by kernel_rfl) fun k12q0 hk12q0 => ?_
      refine aOps_same Try.underlying25 Try.underlying5 (by rfl) (by decide) (AHeap.set_same _ _ _) rfl ?_
      refine aOps_buildSlice (cs := byteCells [65, 66, 32]) (by kernel_rfl) fun k12q2 hk12q2 => ?_
      refine aOps_same Try.underlying25 Try.underlying5 (by rfl) (by decide) (AHeap.set_same _ _ _) rfl ?_
      refine aOps_callV (V := .int .i64 0) (by rfl) (by rfl) ((c_compare w₀ _ _ _ [65, 66] [65, 66, 32] ((IsB.own (AHeap.set_same _ _ _) rfl (Nat.le_refl _)).mono (Sub.set (by assumption))) (IsB.own (AHeap.set_same _ _ _) rfl (Nat.le_refl _)) (by decide) (by decide)).val (by kernel_rfl)) ?_
      simp (decide := true) only [aOps_nil, ev, absV, absS, putD, Slots.put, Slots.get, Slots.keep, if_true, if_false, List.contains_cons, List.contains_nil, true_and, and_true, ↓ap_binOp, pop_binOp, pBinX_int, pI_eql, ↓ap_move, pop_move, decide_true, decide_false, Bool.not_false, Bool.not_true, condV_true, condV_false, forall_const, Bool.and_true, Bool.and_false, Bool.true_and, Bool.false_and, Bool.or_true, Bool.or_false, Bool.true_or, Bool.false_or, pickV_bool, cond_true, cond_false]
      repeat (with_reducible refine And.intro ?_ ?_; · first | trivial | omega | (intro hg; simp only [Bool.and_eq_true, Bool.or_eq_true, Bool.not_eq_true', Bool.and_eq_false_iff, Bool.or_eq_false_iff, Bool.not_eq_false', decide_eq_true_eq, decide_eq_false_iff_not, eqNil] at hg; omega))
      refine aOps_yes (by rfl) ?_
      refine aOps_buildSlice (cs := byteCells [65]) (by kernel_rfl) fun k12q7 hk12q7 => ?_
      refine aOps_yes (by rfl) ?_
      refine aOps_same Try.underlying25 Try.underlying5 (by rfl) (by decide) (AHeap.set_same _ _ _) rfl ?_
      refine aOps_yes (by rfl) ?_
      refine aOps_buildSlice (cs := byteCells [65, 33]) (by kernel_rfl) fun k12q9 hk12q9 => ?_
      refine aOps_yes (by rfl) ?_
      refine aOps_same Try.underlying25 Try.underlying5 (by rfl) (by decide) (AHeap.set_same _ _ _) rfl ?_
      refine aOps_yes (by rfl) ?_
      refine aOps_callV (V := .int .i64 (-1)) (by rfl) (by rfl) ((c_compare w₀ _ _ _ [65] [65, 33] ((IsB.own (AHeap.set_same _ _ _) rfl (Nat.le_refl _)).mono (Sub.set (by assumption))) (IsB.own (AHeap.set_same _ _ _) rfl (Nat.le_refl _)) (by decide) (by decide)).val (by kernel_rfl)) ?_
      simp (decide := true) only [aOps_nil, ev, absV, absS, putD, Slots.put, Slots.get, Slots.keep, if_true, if_false, List.contains_cons, List.contains_nil, true_and, and_true, ↓ag_binOp, pop_binOp, agP, agQ_some, gv, nthDst, gKnown_bool, gKnown_cond, guardB_cond, guardB_bool_true, guardB_bool_false, cv_cv, implies_true, Bool.not_not, decide_true, decide_false, Bool.not_false, Bool.not_true, condV_true, condV_false, forall_const, Bool.and_true, Bool.and_false, Bool.true_and, Bool.false_and, Bool.or_true, Bool.or_false, Bool.true_or, Bool.false_or, cv_binl, cv_binr, cp_binl, cp_binr, pBinX_int, pI_eql, ↓ap_pick, pop_pick, pPick_bool, pickV_cond_l, pickV_cond_r, pickV_cond_rn, cp_nest1, cp_nest2, cp_nest3, cp_nest4, pickV_and, pickV_or, ↓ap_move, pop_move, decide_true, decide_false, Bool.not_false, Bool.not_true, condV_true, condV_false, forall_const, Bool.and_true, Bool.and_false, Bool.true_and, Bool.false_and, Bool.or_true, Bool.or_false, Bool.true_or, Bool.false_or, pickV_bool, cond_true, cond_false]
      repeat (with_reducible refine And.intro ?_ ?_; · first | trivial | omega | (intro hg; simp only [Bool.and_eq_true, Bool.or_eq_true, Bool.not_eq_true', Bool.and_eq_false_iff, Bool.or_eq_false_iff, Bool.not_eq_false', decide_eq_true_eq, decide_eq_false_iff_not, eqNil] at hg; omega))
      refine aOps_yes (by rfl) ?_
      refine aOps_buildSlice (cs := byteCells [66]) (by kernel_rfl) fun k12q15 hk12q15 => ?_
      refine aOps_yes (by rfl) ?_
      refine aOps_same Try.underlying25 Try.underlying5 (by rfl) (by decide) (AHeap.set_same _ _ _) rfl ?_
      refine aOps_yes (by rfl) ?_
      refine aOps_buildSlice (cs := byteCells [65, 126]) (by kernel_rfl) fun k12q17 hk12q17 => ?_
      refine aOps_yes (by rfl) ?_
      refine aOps_same Try.underlying25 Try.underlying5 (by rfl) (by decide) (AHeap.set_same _ _ _) rfl ?_
      refine aOps_yes (by rfl) ?_
      refine aOps_callV (V := .int .i64 1) (by rfl) (by rfl) ((c_compare w₀ _ _ _ [66] [65, 126] ((IsB.own (AHeap.set_same _ _ _) rfl (Nat.le_refl _)).mono (Sub.set (by assumption))) (IsB.own (AHeap.set_same _ _ _) rfl (Nat.le_refl _)) (by decide) (by decide)).val (by kernel_rfl)) ?_
      simp (decide := true) only [aOps_nil, ev, absV, absS, putD, Slots.put, Slots.get, Slots.keep, if_true, if_false, List.contains_cons, List.contains_nil, true_and, and_true, ↓ag_binOp, pop_binOp, agP, agQ_some, gv, nthDst, gKnown_bool, gKnown_cond, guardB_cond, guardB_bool_true, guardB_bool_false, cv_cv, implies_true, Bool.not_not, decide_true, decide_false, Bool.not_false, Bool.not_true, condV_true, condV_false, forall_const, Bool.and_true, Bool.and_false, Bool.true_and, Bool.false_and, Bool.or_true, Bool.or_false, Bool.true_or, Bool.false_or, cv_binl, cv_binr, cp_binl, cp_binr, pBinX_int, pI_eql, ↓ap_pick, pop_pick, pPick_bool, pickV_cond_l, pickV_cond_r, pickV_cond_rn, cp_nest1, cp_nest2, cp_nest3, cp_nest4, pickV_and, pickV_or, ↓ap_move, pop_move, decide_true, decide_false, Bool.not_false, Bool.not_true, condV_true, condV_false, forall_const, Bool.and_true, Bool.and_false, Bool.true_and, Bool.false_and, Bool.or_true, Bool.or_false, Bool.true_or, Bool.false_or, pickV_bool, cond_true, cond_false]
      repeat (with_reducible refine And.intro ?_ ?_; · first | trivial | omega | (intro hg; simp only [Bool.and_eq_true, Bool.or_eq_true, Bool.not_eq_true', Bool.and_eq_false_iff, Bool.or_eq_false_iff, Bool.not_eq_false', decide_eq_true_eq, decide_eq_false_iff_not, eqNil] at hg; omega))
      refine aOps_yes (by rfl) ?_
      refine aOps_buildSlice (cs := byteCells [65]) (by kernel_rfl) fun k12q23 hk12q23 => ?_
      refine aOps_yes (by rfl) ?_
      refine aOps_same Try.underlying25 Try.underlying5 (by rfl) (by decide) (AHeap.set_same _ _ _) rfl ?_
      refine aOps_yes (by rfl) ?_
      refine aOps_buildSlice (cs := byteCells [65, 0]) (by kernel_rfl) fun k12q25 hk12q25 => ?_
      refine aOps_yes (by rfl) ?_
      refine aOps_same Try.underlying25 Try.underlying5 (by rfl) (by decide) (AHeap.set_same _ _ _) rfl ?_
      refine aOps_yes (by rfl) ?_
      refine aOps_callV (V := .int .i64 1) (by rfl) (by rfl) ((c_compare w₀ _ _ _ [65] [65, 0] ((IsB.own (AHeap.set_same _ _ _) rfl (Nat.le_refl _)).mono (Sub.set (by assumption))) (IsB.own (AHeap.set_same _ _ _) rfl (Nat.le_refl _)) (by decide) (by decide)).val (by kernel_rfl)) ?_
      simp (decide := true) only [aOps_nil, ev, absV, absS, putD, Slots.put, Slots.get, Slots.keep, if_true, if_false, List.contains_cons, List.contains_nil, true_and, and_true, ↓ag_binOp, pop_binOp, agP, agQ_some, gv, nthDst, gKnown_bool, gKnown_cond, guardB_cond, guardB_bool_true, guardB_bool_false, cv_cv, implies_true, Bool.not_not, decide_true, decide_false, Bool.not_false, Bool.not_true, condV_true, condV_false, forall_const, Bool.and_true, Bool.and_false, Bool.true_and, Bool.false_and, Bool.or_true, Bool.or_false, Bool.true_or, Bool.false_or, cv_binl, cv_binr, cp_binl, cp_binr, pBinX_int, pI_eql, ↓ap_pick, pop_pick, pPick_bool, pickV_cond_l, pickV_cond_r, pickV_cond_rn, cp_nest1, cp_nest2, cp_nest3, cp_nest4, pickV_and, pickV_or, ↓ap_assign, pop_assign, decide_true, decide_false, Bool.not_false, Bool.not_true, condV_true, condV_false, forall_const, Bool.and_true, Bool.and_false, Bool.true_and, Bool.false_and, Bool.or_true, Bool.or_false, Bool.true_or, Bool.false_or, pickV_bool, cond_true, cond_false]
      repeat (with_reducible refine And.intro ?_ ?_; · first | trivial | omega | (intro hg; simp only [Bool.and_eq_true, Bool.or_eq_true, Bool.not_eq_true', Bool.and_eq_false_iff, Bool.or_eq_false_iff, Bool.not_eq_false', decide_eq_true_eq, decide_eq_false_iff_not, eqNil] at hg; omega))
      apply hK; clear hK K
      refine awp_ret ?_
      try simp only [thenA_ret, inBlockA_ret]
      refine retA_ret h (by repeat (first | exact Sub.refl _ | refine Sub.trans ?_ (Sub.set (by assumption)) | refine Sub.trans ?_ hx10q43.sub)) (resPre_tmp (resPre_nil)) ?_
      simp (decide := true) only [aOps_nil, ev, absV, absS, putD, Slots.put, Slots.get, Slots.keep, if_true, if_false, List.contains_cons, List.contains_nil, true_and, and_true, resOf_one, decide_true, decide_false, Bool.not_false, Bool.not_true, condV_true, condV_false, forall_const, Bool.and_true, Bool.and_false, Bool.true_and, Bool.false_and, Bool.or_true, Bool.or_false, Bool.true_or, Bool.false_or, pickV_bool, cond_true, cond_false]
      all_goals first | rfl | exact ⟨rfl, rfl⟩ | (simp (decide := true) only [if_true, if_false, *]; done) | (trace_state; fail)
end Go.Proofs.Ytmnlmfiokbnhhaa
