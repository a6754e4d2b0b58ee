/-
  Contracts of the functions of the package chars that ask about one byte.
  Conditions: none.
-/
import Derived.Test.YtmnlmfiokbnhhaaTy
set_option linter.unusedSimpArgs false
set_option linter.unusedVariables false
namespace Go.Proofs.Ytmnlmfiokbnhhaa
open Go.AM
open Go.Proofs
set_option maxRecDepth 100000

theorem c_digit (w₀ : World) (h : AHeap) (x : Int) : ACall Try.prog w₀ 22 [.int .u8 x] h (fun v h' => v = .bool (decide (48 ≤ x) && decide (x ≤ 57)) ∧ h' = h) := by
  refine acall_intro (n := 9) (rs := [.tmp 2]) Try.func22 rfl rfl rfl rfl (Nat.le_of_ble_eq_true rfl) ?_
  simp only [initSlots]
  -- region 0  chars.go:15
  refine awp_rseq [0] (by rfl) fun K hK => ?_
  simp (decide := true) only [aOps_nil, ev, absV, absS, putD, Slots.put, Slots.get, Slots.keep, if_true, if_false, List.contains_cons, List.contains_nil, true_and, and_true, ↓ap_assign, pop_assign]
  repeat (with_reducible refine And.intro ?_ ?_; · first | trivial | omega | (intro hg; simp only [Bool.and_eq_true, Bool.or_eq_true, Bool.not_eq_true', Bool.and_eq_false_iff, Bool.or_eq_false_iff, Bool.not_eq_false', decide_eq_true_eq, decide_eq_false_iff_not, eqNil] at hg; omega))
  apply hK; clear hK K
  -- region 1  chars.go:15
  refine awp_rseq [2] (by rfl) fun K hK => ?_
  simp (decide := true) only [aOps_nil, ev, absV, absS, putD, Slots.put, Slots.get, Slots.keep, if_true, if_false, List.contains_cons, List.contains_nil, true_and, and_true, ↓ap_move, pop_move, ↓ap_binOp, pop_binOp, pBinX_int, pI_geq, ↓ag_move, agP, agQ_some, gv, nthDst, gKnown_bool, gKnown_cond, guardB_cond, guardB_bool_true, guardB_bool_false, cv_cv, implies_true, Bool.not_not, decide_true, decide_false, Bool.not_false, Bool.not_true, condV_true, condV_false, forall_const, Bool.and_true, Bool.and_false, Bool.true_and, Bool.false_and, Bool.or_true, Bool.or_false, Bool.true_or, Bool.false_or, ↓ag_binOp, cv_binl, cv_binr, cp_binl, cp_binr, pI_leq, ↓ap_pick, pop_pick, pPick_bool, pickV_cond_l, pickV_cond_r, pickV_cond_rn, cp_nest1, cp_nest2, cp_nest3, cp_nest4, pickV_and, pickV_or, ↓ap_assign, pop_assign]
  repeat (with_reducible refine And.intro ?_ ?_; · first | trivial | omega | (intro hg; simp only [Bool.and_eq_true, Bool.or_eq_true, Bool.not_eq_true', Bool.and_eq_false_iff, Bool.or_eq_false_iff, Bool.not_eq_false', decide_eq_true_eq, decide_eq_false_iff_not, eqNil] at hg; omega))
  apply hK; clear hK K
  refine awp_ret ?_
  try simp only [thenA_ret, inBlockA_ret]
  refine retA_ret _ (Sub.refl _) (resPre_tmp (resPre_nil)) ?_
  simp (decide := true) only [aOps_nil, ev, absV, absS, putD, Slots.put, Slots.get, Slots.keep, if_true, if_false, List.contains_cons, List.contains_nil, true_and, and_true, resOf_one]
  all_goals first | rfl | exact ⟨rfl, rfl⟩ | (simp (decide := true) only [if_true, if_false, *]; done) | (trace_state; fail)

theorem c_letter (w₀ : World) (h : AHeap) (x : Int) : ACall Try.prog w₀ 23 [.int .u8 x] h (fun v h' => v = .bool (decide (65 ≤ x) && decide (x ≤ 90)) ∧ h' = h) := by
  refine acall_intro (n := 9) (rs := [.tmp 2]) Try.func23 rfl rfl rfl rfl (Nat.le_of_ble_eq_true rfl) ?_
  simp only [initSlots]
  -- region 0  chars.go:18
  refine awp_rseq [0] (by rfl) fun K hK => ?_
  simp (decide := true) only [aOps_nil, ev, absV, absS, putD, Slots.put, Slots.get, Slots.keep, if_true, if_false, List.contains_cons, List.contains_nil, true_and, and_true, ↓ap_assign, pop_assign]
  repeat (with_reducible refine And.intro ?_ ?_; · first | trivial | omega | (intro hg; simp only [Bool.and_eq_true, Bool.or_eq_true, Bool.not_eq_true', Bool.and_eq_false_iff, Bool.or_eq_false_iff, Bool.not_eq_false', decide_eq_true_eq, decide_eq_false_iff_not, eqNil] at hg; omega))
  apply hK; clear hK K
  -- region 1  chars.go:18
  refine awp_rseq [2] (by rfl) fun K hK => ?_
  simp (decide := true) only [aOps_nil, ev, absV, absS, putD, Slots.put, Slots.get, Slots.keep, if_true, if_false, List.contains_cons, List.contains_nil, true_and, and_true, ↓ap_move, pop_move, ↓ap_binOp, pop_binOp, pBinX_int, pI_geq, ↓ag_move, agP, agQ_some, gv, nthDst, gKnown_bool, gKnown_cond, guardB_cond, guardB_bool_true, guardB_bool_false, cv_cv, implies_true, Bool.not_not, decide_true, decide_false, Bool.not_false, Bool.not_true, condV_true, condV_false, forall_const, Bool.and_true, Bool.and_false, Bool.true_and, Bool.false_and, Bool.or_true, Bool.or_false, Bool.true_or, Bool.false_or, ↓ag_binOp, cv_binl, cv_binr, cp_binl, cp_binr, pI_leq, ↓ap_pick, pop_pick, pPick_bool, pickV_cond_l, pickV_cond_r, pickV_cond_rn, cp_nest1, cp_nest2, cp_nest3, cp_nest4, pickV_and, pickV_or, ↓ap_assign, pop_assign]
  repeat (with_reducible refine And.intro ?_ ?_; · first | trivial | omega | (intro hg; simp only [Bool.and_eq_true, Bool.or_eq_true, Bool.not_eq_true', Bool.and_eq_false_iff, Bool.or_eq_false_iff, Bool.not_eq_false', decide_eq_true_eq, decide_eq_false_iff_not, eqNil] at hg; omega))
  apply hK; clear hK K
  refine awp_ret ?_
  try simp only [thenA_ret, inBlockA_ret]
  refine retA_ret _ (Sub.refl _) (resPre_tmp (resPre_nil)) ?_
  simp (decide := true) only [aOps_nil, ev, absV, absS, putD, Slots.put, Slots.get, Slots.keep, if_true, if_false, List.contains_cons, List.contains_nil, true_and, and_true, resOf_one]
  all_goals first | rfl | exact ⟨rfl, rfl⟩ | (simp (decide := true) only [if_true, if_false, *]; done) | (trace_state; fail)

theorem c_printable1 (w₀ : World) (h : AHeap) (x : Int) : ACall Try.prog w₀ 31 [.int .u8 x] h (fun v h' => v = .bool (decide (32 ≤ x) && decide (x ≤ 126)) ∧ h' = h) := by
  refine acall_intro (n := 9) (rs := [.tmp 2]) Try.func31 rfl rfl rfl rfl (Nat.le_of_ble_eq_true rfl) ?_
  simp only [initSlots]
  -- region 0  chars.go:43
  refine awp_rseq [0] (by rfl) fun K hK => ?_
  simp (decide := true) only [aOps_nil, ev, absV, absS, putD, Slots.put, Slots.get, Slots.keep, if_true, if_false, List.contains_cons, List.contains_nil, true_and, and_true, ↓ap_assign, pop_assign]
  repeat (with_reducible refine And.intro ?_ ?_; · first | trivial | omega | (intro hg; simp only [Bool.and_eq_true, Bool.or_eq_true, Bool.not_eq_true', Bool.and_eq_false_iff, Bool.or_eq_false_iff, Bool.not_eq_false', decide_eq_true_eq, decide_eq_false_iff_not, eqNil] at hg; omega))
  apply hK; clear hK K
  -- region 1  chars.go:43
  refine awp_rseq [2] (by rfl) fun K hK => ?_
  simp (decide := true) only [aOps_nil, ev, absV, absS, putD, Slots.put, Slots.get, Slots.keep, if_true, if_false, List.contains_cons, List.contains_nil, true_and, and_true, ↓ap_move, pop_move, ↓ap_binOp, pop_binOp, pBinX_int, pI_geq, ↓ag_move, agP, agQ_some, gv, nthDst, gKnown_bool, gKnown_cond, guardB_cond, guardB_bool_true, guardB_bool_false, cv_cv, implies_true, Bool.not_not, decide_true, decide_false, Bool.not_false, Bool.not_true, condV_true, condV_false, forall_const, Bool.and_true, Bool.and_false, Bool.true_and, Bool.false_and, Bool.or_true, Bool.or_false, Bool.true_or, Bool.false_or, ↓ag_binOp, cv_binl, cv_binr, cp_binl, cp_binr, pI_leq, ↓ap_pick, pop_pick, pPick_bool, pickV_cond_l, pickV_cond_r, pickV_cond_rn, cp_nest1, cp_nest2, cp_nest3, cp_nest4, pickV_and, pickV_or, ↓ap_assign, pop_assign]
  repeat (with_reducible refine And.intro ?_ ?_; · first | trivial | omega | (intro hg; simp only [Bool.and_eq_true, Bool.or_eq_true, Bool.not_eq_true', Bool.and_eq_false_iff, Bool.or_eq_false_iff, Bool.not_eq_false', decide_eq_true_eq, decide_eq_false_iff_not, eqNil] at hg; omega))
  apply hK; clear hK K
  refine awp_ret ?_
  try simp only [thenA_ret, inBlockA_ret]
  refine retA_ret _ (Sub.refl _) (resPre_tmp (resPre_nil)) ?_
  simp (decide := true) only [aOps_nil, ev, absV, absS, putD, Slots.put, Slots.get, Slots.keep, if_true, if_false, List.contains_cons, List.contains_nil, true_and, and_true, resOf_one]
  all_goals first | rfl | exact ⟨rfl, rfl⟩ | (simp (decide := true) only [if_true, if_false, *]; done) | (trace_state; fail)

theorem c_name2 (w₀ : World) (h : AHeap) (x : Int) : ACall Try.prog w₀ 24 [.int .u8 x] h (fun v h' => v = .bool (!(decide (65 ≤ x) && decide (x ≤ 90))) ∧ h' = h) := by
  refine acall_intro (n := 6) (rs := [.tmp 2]) Try.func24 rfl rfl rfl rfl (Nat.le_of_ble_eq_true rfl) ?_
  simp only [initSlots]
  -- region 0  chars.go:38
  refine awp_rseq [0] (by rfl) fun K hK => ?_
  simp (decide := true) only [aOps_nil, ev, absV, absS, putD, Slots.put, Slots.get, Slots.keep, if_true, if_false, List.contains_cons, List.contains_nil, true_and, and_true, ↓ap_assign, pop_assign]
  repeat (with_reducible refine And.intro ?_ ?_; · first | trivial | omega | (intro hg; simp only [Bool.and_eq_true, Bool.or_eq_true, Bool.not_eq_true', Bool.and_eq_false_iff, Bool.or_eq_false_iff, Bool.not_eq_false', decide_eq_true_eq, decide_eq_false_iff_not, eqNil] at hg; omega))
  apply hK; clear hK K
  -- region 1  chars.go:38
  refine awp_rseq [2] (by rfl) fun K hK => ?_
  simp (decide := true) only [aOps_nil, ev, absV, absS, putD, Slots.put, Slots.get, Slots.keep, if_true, if_false, List.contains_cons, List.contains_nil, true_and, and_true, ↓ap_move, pop_move]
  repeat (with_reducible refine And.intro ?_ ?_; · first | trivial | omega | (intro hg; simp only [Bool.and_eq_true, Bool.or_eq_true, Bool.not_eq_true', Bool.and_eq_false_iff, Bool.or_eq_false_iff, Bool.not_eq_false', decide_eq_true_eq, decide_eq_false_iff_not, eqNil] at hg; omega))
  refine aOps_callV (V := .bool (decide (65 ≤ x) && decide (x ≤ 90))) (by rfl) (by rfl) (c_letter w₀ h x) ?_
  simp (decide := true) only [aOps_nil, ev, absV, absS, putD, Slots.put, Slots.get, Slots.keep, if_true, if_false, List.contains_cons, List.contains_nil, true_and, and_true, ↓ap_unOp, pop_unOp, pU_not, ↓ap_assign, pop_assign]
  try simp (disch := omega) only [wrap_i64, wrap_u8]
  repeat (with_reducible refine And.intro ?_ ?_; · first | trivial | omega | (intro hg; simp only [Bool.and_eq_true, Bool.or_eq_true, Bool.not_eq_true', Bool.and_eq_false_iff, Bool.or_eq_false_iff, Bool.not_eq_false', decide_eq_true_eq, decide_eq_false_iff_not, eqNil] at hg; omega))
  apply hK; clear hK K
  refine awp_ret ?_
  try simp only [thenA_ret, inBlockA_ret]
  refine retA_ret _ (Sub.refl _) (resPre_tmp (resPre_nil)) ?_
  simp (decide := true) only [aOps_nil, ev, absV, absS, putD, Slots.put, Slots.get, Slots.keep, if_true, if_false, List.contains_cons, List.contains_nil, true_and, and_true, resOf_one]
  all_goals first | rfl | exact ⟨rfl, rfl⟩ | (simp (decide := true) only [if_true, if_false, *]; done) | (trace_state; fail)

theorem c_name1 (w₀ : World) (h : AHeap) (x : Int) : ACall Try.prog w₀ 21 [.int .u8 x] h (fun v h' => v = .bool ((decide (48 ≤ x) && decide (x ≤ 57)) || (decide (65 ≤ x) && decide (x ≤ 90)) || decide (x = 45)) ∧ h' = h) := by
  refine acall_intro (n := 13) (rs := [.tmp 2]) Try.func21 rfl rfl rfl rfl (Nat.le_of_ble_eq_true rfl) ?_
  simp only [initSlots]
  -- region 0  chars.go:38
  refine awp_rseq [0] (by rfl) fun K hK => ?_
  simp (decide := true) only [aOps_nil, ev, absV, absS, putD, Slots.put, Slots.get, Slots.keep, if_true, if_false, List.contains_cons, List.contains_nil, true_and, and_true, ↓ap_assign, pop_assign]
  repeat (with_reducible refine And.intro ?_ ?_; · first | trivial | omega | (intro hg; simp only [Bool.and_eq_true, Bool.or_eq_true, Bool.not_eq_true', Bool.and_eq_false_iff, Bool.or_eq_false_iff, Bool.not_eq_false', decide_eq_true_eq, decide_eq_false_iff_not, eqNil] at hg; omega))
  apply hK; clear hK K
  -- region 1  chars.go:38
  refine awp_rseq [2] (by rfl) fun K hK => ?_
  simp (decide := true) only [aOps_nil, ev, absV, absS, putD, Slots.put, Slots.get, Slots.keep, if_true, if_false, List.contains_cons, List.contains_nil, true_and, and_true, ↓ap_move, pop_move]
  repeat (with_reducible refine And.intro ?_ ?_; · first | trivial | omega | (intro hg; simp only [Bool.and_eq_true, Bool.or_eq_true, Bool.not_eq_true', Bool.and_eq_false_iff, Bool.or_eq_false_iff, Bool.not_eq_false', decide_eq_true_eq, decide_eq_false_iff_not, eqNil] at hg; omega))
  refine aOps_callV (V := .bool (decide (48 ≤ x) && decide (x ≤ 57))) (by rfl) (by rfl) (c_digit w₀ h x) ?_
  simp (decide := true) only [aOps_nil, ev, absV, absS, putD, Slots.put, Slots.get, Slots.keep, if_true, if_false, List.contains_cons, List.contains_nil, true_and, and_true, ↓ap_move, pop_move, ↓ag_move, agP, agQ_some, gv, nthDst, gKnown_bool, gKnown_cond, guardB_cond, guardB_bool_true, guardB_bool_false, cv_cv, implies_true, Bool.not_not, decide_true, decide_false, Bool.not_false, Bool.not_true, condV_true, condV_false, forall_const, Bool.and_true, Bool.and_false, Bool.true_and, Bool.false_and, Bool.or_true, Bool.or_false, Bool.true_or, Bool.false_or]
  repeat (with_reducible refine And.intro ?_ ?_; · first | trivial | omega | (intro hg; simp only [Bool.and_eq_true, Bool.or_eq_true, Bool.not_eq_true', Bool.and_eq_false_iff, Bool.or_eq_false_iff, Bool.not_eq_false', decide_eq_true_eq, decide_eq_false_iff_not, eqNil] at hg; omega))
  first
  | (refine aOps_yes (by rfl) ?_; refine aOps_callV (V := .bool (decide (65 ≤ x) && decide (x ≤ 90))) (by rfl) (by rfl) (c_letter w₀ h x) ?_)
  | (refine aOps_gcall (V := .bool (decide (65 ≤ x) && decide (x ≤ 90))) (f := _) (cap := _) (xs := _) rfl (fun hg => ⟨rfl, ?_⟩) (fun hg => c_letter w₀ h x) ?_; · (simp (decide := true) only [gv, nthDst, Slots.get, if_true, if_false, guardB_bool_true, guardB_bool_false, guardB_cond, Bool.not_not] at hg; simp (decide := true) only [evs, ev, Slots.get, if_true, if_false, hg, condV_true, List.append_nil, List.map_cons, List.map_nil]))
  simp (decide := true) only [aOps_nil, ev, absV, absS, putD, Slots.put, Slots.get, Slots.keep, if_true, if_false, List.contains_cons, List.contains_nil, true_and, and_true, gv, nthDst, guardB_bool_true, guardB_bool_false, guardB_cond, ↓ap_pick, pop_pick, pPick_bool, pickV_cond_l, pickV_cond_r, pickV_cond_rn, cp_nest1, cp_nest2, cp_nest3, cp_nest4, pickV_and, pickV_or, ↓ap_move, pop_move, ↓ag_move, agP, agQ_some, gKnown_bool, gKnown_cond, cv_cv, implies_true, Bool.not_not, decide_true, decide_false, Bool.not_false, Bool.not_true, condV_true, condV_false, forall_const, Bool.and_true, Bool.and_false, Bool.true_and, Bool.false_and, Bool.or_true, Bool.or_false, Bool.true_or, Bool.false_or, ↓ag_binOp, pop_binOp, cv_binl, cv_binr, cp_binl, cp_binr, pBinX_int, pI_eql, ↓ap_assign, pop_assign]
  repeat (with_reducible refine And.intro ?_ ?_; · first | trivial | omega | (intro hg; simp only [Bool.and_eq_true, Bool.or_eq_true, Bool.not_eq_true', Bool.and_eq_false_iff, Bool.or_eq_false_iff, Bool.not_eq_false', decide_eq_true_eq, decide_eq_false_iff_not, eqNil] at hg; omega))
  apply hK; clear hK K
  refine awp_ret ?_
  try simp only [thenA_ret, inBlockA_ret]
  refine retA_ret _ (Sub.refl _) (resPre_tmp (resPre_nil)) ?_
  simp (decide := true) only [aOps_nil, ev, absV, absS, putD, Slots.put, Slots.get, Slots.keep, if_true, if_false, List.contains_cons, List.contains_nil, true_and, and_true, resOf_one]
  all_goals first | rfl | exact ⟨rfl, rfl⟩ | (simp (decide := true) only [if_true, if_false, *]; done) | (trace_state; fail)
end Go.Proofs.Ytmnlmfiokbnhhaa
