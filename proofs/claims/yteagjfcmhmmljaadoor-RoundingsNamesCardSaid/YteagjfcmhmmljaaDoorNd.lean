/-
  Texts of this proof, joined: RdA, RdB, RdC, RdD, RdE, RdF, RdG.
  Conditions: none.
-/
import Derived.Test.YteagjfcmhmmljaaDoorNc
set_option linter.unusedSimpArgs false
set_option linter.unnecessarySimpa false
set_option linter.unusedVariables false
/-
  Contracts: check, half, odd, away of the package roundings.
  Conditions: none.
-/
namespace Go.Proofs.YteagjfcmhmmljaaDoor
open Go.AM
open Go.Proofs
open Go.Dec
open Go.Lib (decDigits)
set_option maxRecDepth 100000

theorem c_repeatI (w₀ : World) (h : AHeap) (b : UInt8) (n : Int) (h0 : 0 ≤ n) (hn : n ≤ 140737488355328) : ACall Tryd.prog w₀ 25 [.str [b], .int .i64 n] h (fun v h' => v = .str (List.replicate n.toNat b) ∧ h' = h) := by
  have e := c_repeat w₀ h b n.toNat (by omega)
  rw [show ((n.toNat : Nat) : Int) = n by omega] at e
  exact e

def chkR (d : D) (g s : Int) : Int := if checkE d = 0 ∧ 1 ≤ g ∧ g ≤ 62 ∧ -62 ≤ s ∧ s ≤ 62 then 0 else 1
theorem chkR_0 {d : D} {g s : Int} (h : chkR d g s = 0) : checkE d = 0 ∧ 1 ≤ g ∧ g ≤ 62 ∧ -62 ≤ s ∧ s ≤ 62 := by
  unfold chkR at h
  split at h
  · assumption
  · cases h

theorem c_chkR (w₀ : World) (h : AHeap) (d : D) (g s : Int) (hl : d.dig.length ≤ 9223372036854775807) :
    ACall Tryd.prog w₀ 15 [decA d, .int .i64 g, .int .i64 s] h (fun v h' => v = .int .i64 (chkR d g s) ∧ h' = h) := by
  refine acall_intro (n := 26) (rs := [.tmp 6]) Tryd.func15 rfl rfl rfl rfl (Nat.le_of_ble_eq_true rfl) ?_
  simp only [initSlots]
  -- region 0  roundings.go:45
  refine awp_rseq [1, 2, 3] (by rfl) fun K hK => ?_
  refine aOps_box (by rfl) (by rfl) (by rfl) fun k0q0 hk0q0 => ?_
  try have hf_0q0 : h k0q0 = none := by first | assumption | (simp only [AHeap.set_none] at hk0q0; simp only [hk0q0])
  skip
  simp (decide := true) only [aOps_nil, vOps_nil, fOps_nil, kOps_nil, ev, absV, absS, putD, Slots.put, Slots.get, Slots.keep, if_true, if_false, List.contains_cons, List.contains_nil, true_and, and_true, ↓ap_assign, pop_assign, rd_ne', ne_eq, not_false_eq_true, rd_any, AVal.cells, setAt, List.set_cons_zero, List.set_cons_succ, cellsAt, List.getD_cons_zero, List.getD_cons_succ, Nat.zero_add, Nat.reduceAdd, lv_bool, lv_int, lv_str, lv_nilPtr, lv_ptr, lv_nilSlice, lv_slice, lv_nilFunc, lv_func, lv_nilIface, lv_iface, lv_nilMap, lv_agg, lv_tuple, allLive, Bool.and_true, decA]
  repeat (with_reducible refine And.intro ?_ ?_; · first | trivial | omega | (intro hg; simp only [Bool.and_eq_true, Bool.or_eq_true, Bool.not_eq_true', Bool.and_eq_false_iff, Bool.or_eq_false_iff, Bool.not_eq_false', decide_eq_true_eq, decide_eq_false_iff_not, eqNil] at hg; omega) )
  apply hK; clear hK K
  refine awp_seq ?_
  -- region 1  roundings.go:46
  refine awp_rseq [25] (by rfl) fun K hK => ?_
  simp (decide := true) only [aOps_nil, vOps_nil, fOps_nil, kOps_nil, ev, absV, absS, putD, Slots.put, Slots.get, Slots.keep, if_true, if_false, List.contains_cons, List.contains_nil, true_and, and_true, ↓ap_loadL, apL_mk, pLoad_agg ag32 sz32, rd_ne', ne_eq, not_false_eq_true, rd_any, AVal.cells, setAt, List.set_cons_zero, List.set_cons_succ, cellsAt, List.getD_cons_zero, List.getD_cons_succ, Nat.zero_add, Nat.reduceAdd, lv_bool, lv_int, lv_str, lv_nilPtr, lv_ptr, lv_nilSlice, lv_slice, lv_nilFunc, lv_func, lv_nilIface, lv_iface, lv_nilMap, lv_agg, lv_tuple, allLive, Bool.and_true, decA]
  repeat (with_reducible refine And.intro ?_ ?_; · first | trivial | omega | (intro hg; simp only [Bool.and_eq_true, Bool.or_eq_true, Bool.not_eq_true', Bool.and_eq_false_iff, Bool.or_eq_false_iff, Bool.not_eq_false', decide_eq_true_eq, decide_eq_false_iff_not, eqNil] at hg; omega) )
  refine aOps_callV (V := .int .i64 (checkE d)) (by rfl) (by rfl) (c_Check w₀ _ d hl) ?_
  simp (decide := true) only [aOps_nil, vOps_nil, fOps_nil, kOps_nil, ev, absV, absS, putD, Slots.put, Slots.get, Slots.keep, if_true, if_false, List.contains_cons, List.contains_nil, true_and, and_true, ↓ap_binOp, pop_binOp, isNilC_int, cond_false, pBinX_int, pI_neq, ↓ap_move, pop_move, ↓ag_move, agP, agQ_some, gv, nthDst, gKnown_bool, gKnown_cond, guardB_cond, guardB_bool_true, guardB_bool_false, cv_cv, implies_true, Bool.not_not, decide_true, decide_false, Bool.not_false, Bool.not_true, condV_true, condV_false, forall_const, false_implies, pickV_true, pickV_false, Bool.and_true, Bool.and_false, Bool.true_and, Bool.false_and, Bool.or_true, Bool.or_false, Bool.true_or, Bool.false_or, ↓ag_binOp, cv_binl, cv_binr, cp_binl, cp_binr, pI_lss, ↓ap_pick, pop_pick, pPick_bool, pickV_cond_l, pickV_cond_r, pickV_cond_rn, cp_nest1, cp_nest2, cp_nest3, cp_nest4, pickV_and, pickV_or, pI_gtr, rd_ne', ne_eq, not_false_eq_true, rd_any, AVal.cells, setAt, List.set_cons_zero, List.set_cons_succ, cellsAt, List.getD_cons_zero, List.getD_cons_succ, Nat.zero_add, Nat.reduceAdd, lv_bool, lv_int, lv_str, lv_nilPtr, lv_ptr, lv_nilSlice, lv_slice, lv_nilFunc, lv_func, lv_nilIface, lv_iface, lv_nilMap, lv_agg, lv_tuple, allLive, Bool.and_true, decA]
  repeat (with_reducible refine And.intro ?_ ?_; · first | trivial | omega | (intro hg; simp only [Bool.and_eq_true, Bool.or_eq_true, Bool.not_eq_true', Bool.and_eq_false_iff, Bool.or_eq_false_iff, Bool.not_eq_false', decide_eq_true_eq, decide_eq_false_iff_not, eqNil] at hg; omega) )
  apply hK; clear hK K
  refine awp_cond (b := _) rfl (fun hb1 => ?_) (fun hb1 => ?_)
  · try simp only [decide_eq_true_eq, decide_eq_false_iff_not, Bool.not_eq_true', Bool.not_eq_false', Bool.and_eq_true, Bool.and_eq_false_iff, Bool.or_eq_true, Bool.or_eq_false_iff, Bool.true_eq, Bool.false_eq, reduceCtorEq] at hb1
    -- region 2  roundings.go:47
    refine awp_rseq [6] (by rfl) fun K hK => ?_
    simp (decide := true) only [aOps_nil, vOps_nil, fOps_nil, kOps_nil, ev, absV, absS, putD, Slots.put, Slots.get, Slots.keep, if_true, if_false, List.contains_cons, List.contains_nil, true_and, and_true, ↓ap_assign, pop_assign, rd_ne', ne_eq, not_false_eq_true, rd_any, AVal.cells, setAt, List.set_cons_zero, List.set_cons_succ, cellsAt, List.getD_cons_zero, List.getD_cons_succ, Nat.zero_add, Nat.reduceAdd, lv_bool, lv_int, lv_str, lv_nilPtr, lv_ptr, lv_nilSlice, lv_slice, lv_nilFunc, lv_func, lv_nilIface, lv_iface, lv_nilMap, lv_agg, lv_tuple, allLive, Bool.and_true, decA]
    repeat (with_reducible refine And.intro ?_ ?_; · first | trivial | omega | (intro hg; simp only [Bool.and_eq_true, Bool.or_eq_true, Bool.not_eq_true', Bool.and_eq_false_iff, Bool.or_eq_false_iff, Bool.not_eq_false', decide_eq_true_eq, decide_eq_false_iff_not, eqNil] at hg; omega) )
    apply hK; clear hK K
    refine awp_ret ?_
    try simp only [thenA_ret, inBlockA_ret]
    refine retA_ret h (by repeat (first | exact Sub.refl _ | assumption | refine Sub.trans_set ?_ (by assumption))) (resPre_tmp (resPre_nil)) ?_
    simp (decide := true) only [aOps_nil, vOps_nil, fOps_nil, kOps_nil, ev, absV, absS, putD, Slots.put, Slots.get, Slots.keep, if_true, if_false, List.contains_cons, List.contains_nil, true_and, and_true, resOf_one, rd_ne', ne_eq, not_false_eq_true, rd_any, AVal.cells, setAt, List.set_cons_zero, List.set_cons_succ, cellsAt, List.getD_cons_zero, List.getD_cons_succ, Nat.zero_add, Nat.reduceAdd, lv_bool, lv_int, lv_str, lv_nilPtr, lv_ptr, lv_nilSlice, lv_slice, lv_nilFunc, lv_func, lv_nilIface, lv_iface, lv_nilMap, lv_agg, lv_tuple, allLive, Bool.and_true, decA]
    rw [chkR, if_neg]
    rintro ⟨h1, h2, h3, h4, h5⟩
    rw [h1] at hb1
    simp at hb1
    omega
  · try simp only [decide_eq_true_eq, decide_eq_false_iff_not, Bool.not_eq_true', Bool.not_eq_false', Bool.and_eq_true, Bool.and_eq_false_iff, Bool.or_eq_true, Bool.or_eq_false_iff, Bool.true_eq, Bool.false_eq, reduceCtorEq] at hb1
    refine awp_skip ?_
    change Awp _ _ _ _ _ _ _
    -- region 3  roundings.go:49
    refine awp_rseq [6] (by rfl) fun K hK => ?_
    simp (decide := true) only [aOps_nil, vOps_nil, fOps_nil, kOps_nil, ev, absV, absS, putD, Slots.put, Slots.get, Slots.keep, if_true, if_false, List.contains_cons, List.contains_nil, true_and, and_true, ↓ap_assign, pop_assign, rd_ne', ne_eq, not_false_eq_true, rd_any, AVal.cells, setAt, List.set_cons_zero, List.set_cons_succ, cellsAt, List.getD_cons_zero, List.getD_cons_succ, Nat.zero_add, Nat.reduceAdd, lv_bool, lv_int, lv_str, lv_nilPtr, lv_ptr, lv_nilSlice, lv_slice, lv_nilFunc, lv_func, lv_nilIface, lv_iface, lv_nilMap, lv_agg, lv_tuple, allLive, Bool.and_true, decA]
    repeat (with_reducible refine And.intro ?_ ?_; · first | trivial | omega | (intro hg; simp only [Bool.and_eq_true, Bool.or_eq_true, Bool.not_eq_true', Bool.and_eq_false_iff, Bool.or_eq_false_iff, Bool.not_eq_false', decide_eq_true_eq, decide_eq_false_iff_not, eqNil] at hg; omega) )
    apply hK; clear hK K
    refine awp_ret ?_
    try simp only [thenA_ret, inBlockA_ret]
    refine retA_ret h (by repeat (first | exact Sub.refl _ | assumption | refine Sub.trans_set ?_ (by assumption))) (resPre_tmp (resPre_nil)) ?_
    simp (decide := true) only [aOps_nil, vOps_nil, fOps_nil, kOps_nil, ev, absV, absS, putD, Slots.put, Slots.get, Slots.keep, if_true, if_false, List.contains_cons, List.contains_nil, true_and, and_true, resOf_one, rd_ne', ne_eq, not_false_eq_true, rd_any, AVal.cells, setAt, List.set_cons_zero, List.set_cons_succ, cellsAt, List.getD_cons_zero, List.getD_cons_succ, Nat.zero_add, Nat.reduceAdd, lv_bool, lv_int, lv_str, lv_nilPtr, lv_ptr, lv_nilSlice, lv_slice, lv_nilFunc, lv_func, lv_nilIface, lv_iface, lv_nilMap, lv_agg, lv_tuple, allLive, Bool.and_true, decA]
    rw [chkR, if_pos]
    refine ⟨?_, by omega, by omega, by omega, by omega⟩
    simpa using hb1.1.1.1.1

/-- What is lost against half a step. -/
def halfL (lost : List UInt8) : Int := if (lost.getD 0 0).toNat < 53 then -1 else if 53 < (lost.getD 0 0).toNat ∨ ¬ (lost.drop 1).all (· == 48) = true then 1 else 0
def halfE (d : D) (s : Int) : Int := if (d.dig.length : Int) < d.scale - s then -1 else halfL (d.dig.drop (d.dig.length - (d.scale - s).toNat))

theorem c_half (w₀ : World) (h : AHeap) (d : D) (s : Int) (sd : Small d) (h1 : -62 ≤ s) (h2 : s ≤ 62) (h3 : s < d.scale) :
    ACall Tryd.prog w₀ 26 [decA d, .int .i64 s] h (fun v h' => v = .int .i64 (halfE d s) ∧ h' = h) := by
  have ha1 := sd.l
  have ha2 := sd.s0
  have ha3 := sd.s1
  refine acall_intro (n := 38) (rs := [.tmp 4]) Tryd.func26 rfl rfl rfl rfl (Nat.le_of_ble_eq_true rfl) ?_
  simp only [initSlots]
  -- region 0  roundings.go:53
  refine awp_rseq [1, 2] (by rfl) fun K hK => ?_
  refine aOps_box (by rfl) (by rfl) (by rfl) fun k0q0 hk0q0 => ?_
  try have hf_0q0 : h k0q0 = none := by first | assumption | (simp only [AHeap.set_none] at hk0q0; simp only [hk0q0])
  skip
  simp (decide := true) only [aOps_nil, vOps_nil, fOps_nil, kOps_nil, ev, absV, absS, putD, Slots.put, Slots.get, Slots.keep, if_true, if_false, List.contains_cons, List.contains_nil, true_and, and_true, ↓ap_assign, pop_assign, rd_ne', ne_eq, not_false_eq_true, rd_any, AVal.cells, setAt, List.set_cons_zero, List.set_cons_succ, cellsAt, List.getD_cons_zero, List.getD_cons_succ, Nat.zero_add, Nat.reduceAdd, lv_bool, lv_int, lv_str, lv_nilPtr, lv_ptr, lv_nilSlice, lv_slice, lv_nilFunc, lv_func, lv_nilIface, lv_iface, lv_nilMap, lv_agg, lv_tuple, allLive, Bool.and_true, decA]
  repeat (with_reducible refine And.intro ?_ ?_; · first | trivial | omega | (intro hg; simp only [Bool.and_eq_true, Bool.or_eq_true, Bool.not_eq_true', Bool.and_eq_false_iff, Bool.or_eq_false_iff, Bool.not_eq_false', decide_eq_true_eq, decide_eq_false_iff_not, eqNil] at hg; omega) )
  apply hK; clear hK K
  -- region 1  roundings.go:54
  refine awp_rseq [2, 5] (by rfl) fun K hK => ?_
  simp (decide := true) only [aOps_nil, vOps_nil, fOps_nil, kOps_nil, ev, absV, absS, putD, Slots.put, Slots.get, Slots.keep, if_true, if_false, List.contains_cons, List.contains_nil, true_and, and_true, ↓ap_fieldAddr, pop_fieldAddr, fa32_2, ↓ap_loadL, apL_mk, pLoad_one ag3, ↓ap_move, pop_move, ↓ap_binOp, pop_binOp, isNilC_tmp, cond_false, pBinX_int, pI_sub, ↓ap_assign, pop_assign, rd_ne', ne_eq, not_false_eq_true, rd_any, AVal.cells, setAt, List.set_cons_zero, List.set_cons_succ, cellsAt, List.getD_cons_zero, List.getD_cons_succ, Nat.zero_add, Nat.reduceAdd, lv_bool, lv_int, lv_str, lv_nilPtr, lv_ptr, lv_nilSlice, lv_slice, lv_nilFunc, lv_func, lv_nilIface, lv_iface, lv_nilMap, lv_agg, lv_tuple, allLive, Bool.and_true, decA]
  try simp (disch := omega) only [wrap_i64, wrap_u8]
  repeat (with_reducible refine And.intro ?_ ?_; · first | trivial | omega | (intro hg; simp only [Bool.and_eq_true, Bool.or_eq_true, Bool.not_eq_true', Bool.and_eq_false_iff, Bool.or_eq_false_iff, Bool.not_eq_false', decide_eq_true_eq, decide_eq_false_iff_not, eqNil] at hg; omega) )
  apply hK; clear hK K
  refine awp_seq ?_
  -- region 2  roundings.go:55
  refine awp_rseq [2, 5, 15] (by rfl) fun K hK => ?_
  simp (decide := true) only [aOps_nil, vOps_nil, fOps_nil, kOps_nil, ev, absV, absS, putD, Slots.put, Slots.get, Slots.keep, if_true, if_false, List.contains_cons, List.contains_nil, true_and, and_true, ↓ap_move, pop_move, ↓ap_fieldAddr, pop_fieldAddr, fa32_1, ↓ap_loadL, apL_mk, pLoad_one ag9, ↓ap_len, pop_len, pLen_str Tryd.underlying9, ↓ap_binOp, pop_binOp, isNilC_tmp, cond_false, pBinX_int, pI_gtr, rd_ne', ne_eq, not_false_eq_true, rd_any, AVal.cells, setAt, List.set_cons_zero, List.set_cons_succ, cellsAt, List.getD_cons_zero, List.getD_cons_succ, Nat.zero_add, Nat.reduceAdd, lv_bool, lv_int, lv_str, lv_nilPtr, lv_ptr, lv_nilSlice, lv_slice, lv_nilFunc, lv_func, lv_nilIface, lv_iface, lv_nilMap, lv_agg, lv_tuple, allLive, Bool.and_true, decA]
  repeat (with_reducible refine And.intro ?_ ?_; · first | trivial | omega | (intro hg; simp only [Bool.and_eq_true, Bool.or_eq_true, Bool.not_eq_true', Bool.and_eq_false_iff, Bool.or_eq_false_iff, Bool.not_eq_false', decide_eq_true_eq, decide_eq_false_iff_not, eqNil] at hg; omega) )
  apply hK; clear hK K
  refine awp_cond (b := _) rfl (fun hb1 => ?_) (fun hb1 => ?_)
  · try simp only [decide_eq_true_eq, decide_eq_false_iff_not, Bool.not_eq_true', Bool.not_eq_false', Bool.and_eq_true, Bool.and_eq_false_iff, Bool.or_eq_true, Bool.or_eq_false_iff, Bool.true_eq, Bool.false_eq, reduceCtorEq] at hb1
    -- region 3  roundings.go:56
    refine awp_rseq [4] (by rfl) fun K hK => ?_
    simp (decide := true) only [aOps_nil, vOps_nil, fOps_nil, kOps_nil, ev, absV, absS, putD, Slots.put, Slots.get, Slots.keep, if_true, if_false, List.contains_cons, List.contains_nil, true_and, and_true, ↓ap_assign, pop_assign, rd_ne', ne_eq, not_false_eq_true, rd_any, AVal.cells, setAt, List.set_cons_zero, List.set_cons_succ, cellsAt, List.getD_cons_zero, List.getD_cons_succ, Nat.zero_add, Nat.reduceAdd, lv_bool, lv_int, lv_str, lv_nilPtr, lv_ptr, lv_nilSlice, lv_slice, lv_nilFunc, lv_func, lv_nilIface, lv_iface, lv_nilMap, lv_agg, lv_tuple, allLive, Bool.and_true, decA]
    repeat (with_reducible refine And.intro ?_ ?_; · first | trivial | omega | (intro hg; simp only [Bool.and_eq_true, Bool.or_eq_true, Bool.not_eq_true', Bool.and_eq_false_iff, Bool.or_eq_false_iff, Bool.not_eq_false', decide_eq_true_eq, decide_eq_false_iff_not, eqNil] at hg; omega) )
    apply hK; clear hK K
    refine awp_ret ?_
    try simp only [thenA_ret, inBlockA_ret]
    refine retA_ret h (by repeat (first | exact Sub.refl _ | assumption | refine Sub.trans_set ?_ (by assumption))) (resPre_tmp (resPre_nil)) ?_
    simp (decide := true) only [aOps_nil, vOps_nil, fOps_nil, kOps_nil, ev, absV, absS, putD, Slots.put, Slots.get, Slots.keep, if_true, if_false, List.contains_cons, List.contains_nil, true_and, and_true, resOf_one, rd_ne', ne_eq, not_false_eq_true, rd_any, AVal.cells, setAt, List.set_cons_zero, List.set_cons_succ, cellsAt, List.getD_cons_zero, List.getD_cons_succ, Nat.zero_add, Nat.reduceAdd, lv_bool, lv_int, lv_str, lv_nilPtr, lv_ptr, lv_nilSlice, lv_slice, lv_nilFunc, lv_func, lv_nilIface, lv_iface, lv_nilMap, lv_agg, lv_tuple, allLive, Bool.and_true, decA]
    rw [halfE, if_pos hb1]
  · try simp only [decide_eq_true_eq, decide_eq_false_iff_not, Bool.not_eq_true', Bool.not_eq_false', Bool.and_eq_true, Bool.and_eq_false_iff, Bool.or_eq_true, Bool.or_eq_false_iff, Bool.true_eq, Bool.false_eq, reduceCtorEq] at hb1
    have hidx : ((d.dig.length : Int) - (d.scale - s)).toNat = d.dig.length - (d.scale - s).toNat := by omega
    have hll : (List.drop (d.dig.length - (d.scale - s).toNat) d.dig).length = (d.scale - s).toNat := by simp; omega
    obtain ⟨lost, hL⟩ : ∃ x, x = List.drop (d.dig.length - (d.scale - s).toNat) d.dig := ⟨_, rfl⟩
    have hl2 : lost.length = (d.scale - s).toNat := by rw [hL]; exact hll
    have hlost : List.take (d.dig.length - (d.dig.length - (d.scale - s).toNat)) lost = lost := List.take_of_length_le (by omega)
    have htl : List.take (lost.length - 1) (List.drop 1 lost) = List.drop 1 lost := List.take_of_length_le (by simp)
    refine awp_skip ?_
    change Awp _ _ _ _ _ _ _
    -- region 4  roundings.go:58
    refine awp_rseq [6] (by rfl) fun K hK => ?_
    simp (decide := true) only [aOps_nil, vOps_nil, fOps_nil, kOps_nil, ev, absV, absS, putD, Slots.put, Slots.get, Slots.keep, if_true, if_false, List.contains_cons, List.contains_nil, true_and, and_true, ↓ap_fieldAddr, pop_fieldAddr, fa32_1, ↓ap_loadL, apL_mk, pLoad_one ag9, ↓ap_len, pop_len, pLen_str Tryd.underlying9, ↓ap_move, pop_move, ↓ap_binOp, pop_binOp, isNilC_tmp, cond_false, pBinX_int, pI_sub, rd_ne', ne_eq, not_false_eq_true, rd_any, AVal.cells, setAt, List.set_cons_zero, List.set_cons_succ, cellsAt, List.getD_cons_zero, List.getD_cons_succ, Nat.zero_add, Nat.reduceAdd, lv_bool, lv_int, lv_str, lv_nilPtr, lv_ptr, lv_nilSlice, lv_slice, lv_nilFunc, lv_func, lv_nilIface, lv_iface, lv_nilMap, lv_agg, lv_tuple, allLive, Bool.and_true, decA, hidx, Int.toNat_natCast, ← hL, hlost, show Int.toNat 1 = 1 from rfl, htl, show Int.toNat 0 = 0 from rfl]
    try simp (disch := omega) only [wrap_i64, wrap_u8]
    try simp (decide := true) only [aOps_nil, vOps_nil, fOps_nil, kOps_nil, ev, absV, absS, putD, Slots.put, Slots.get, Slots.keep, if_true, if_false, List.contains_cons, List.contains_nil, true_and, and_true, ↓ap_slice, pop_slice, evO, pSliceS_00 Tryd.underlying9, pSliceS_0i Tryd.underlying9, pSliceS_i0 Tryd.underlying9, pSliceS_ii Tryd.underlying9, pSliceS, bndA_none, bndA_int, ↓ap_assign, pop_assign, rd_ne', ne_eq, not_false_eq_true, rd_any, AVal.cells, setAt, List.set_cons_zero, List.set_cons_succ, cellsAt, List.getD_cons_zero, List.getD_cons_succ, Nat.zero_add, Nat.reduceAdd, lv_bool, lv_int, lv_str, lv_nilPtr, lv_ptr, lv_nilSlice, lv_slice, lv_nilFunc, lv_func, lv_nilIface, lv_iface, lv_nilMap, lv_agg, lv_tuple, allLive, Bool.and_true, decA, hidx, Int.toNat_natCast, ← hL, hlost, show Int.toNat 1 = 1 from rfl, htl, show Int.toNat 0 = 0 from rfl]
    repeat (with_reducible refine And.intro ?_ ?_; · first | trivial | omega | (intro hg; simp only [Bool.and_eq_true, Bool.or_eq_true, Bool.not_eq_true', Bool.and_eq_false_iff, Bool.or_eq_false_iff, Bool.not_eq_false', decide_eq_true_eq, decide_eq_false_iff_not, eqNil] at hg; omega) )
    apply hK; clear hK K
    refine awp_seq ?_
    refine awp_block ?_
    -- region 5  roundings.go:60
    refine awp_rseq [6, 24] (by rfl) fun K hK => ?_
    simp (decide := true) only [aOps_nil, vOps_nil, fOps_nil, kOps_nil, ev, absV, absS, putD, Slots.put, Slots.get, Slots.keep, if_true, if_false, List.contains_cons, List.contains_nil, true_and, and_true, ↓ap_move, pop_move, ↓ap_index, pop_index, pIndex_str Tryd.underlying9, ↓ap_binOp, pop_binOp, isNilC_int, cond_false, pBinX_int, pI_lss, ↓ap_assign, pop_assign, rd_ne', ne_eq, not_false_eq_true, rd_any, AVal.cells, setAt, List.set_cons_zero, List.set_cons_succ, cellsAt, List.getD_cons_zero, List.getD_cons_succ, Nat.zero_add, Nat.reduceAdd, lv_bool, lv_int, lv_str, lv_nilPtr, lv_ptr, lv_nilSlice, lv_slice, lv_nilFunc, lv_func, lv_nilIface, lv_iface, lv_nilMap, lv_agg, lv_tuple, allLive, Bool.and_true, decA, hidx, Int.toNat_natCast, ← hL, hlost, show Int.toNat 1 = 1 from rfl, htl, show Int.toNat 0 = 0 from rfl]
    repeat (with_reducible refine And.intro ?_ ?_; · first | trivial | omega | (intro hg; simp only [Bool.and_eq_true, Bool.or_eq_true, Bool.not_eq_true', Bool.and_eq_false_iff, Bool.or_eq_false_iff, Bool.not_eq_false', decide_eq_true_eq, decide_eq_false_iff_not, eqNil] at hg; omega) )
    apply hK; clear hK K
    refine awp_cond (b := _) rfl (fun hb2 => ?_) (fun hb2 => ?_)
    · try simp only [decide_eq_true_eq, decide_eq_false_iff_not, Bool.not_eq_true', Bool.not_eq_false', Bool.and_eq_true, Bool.and_eq_false_iff, Bool.or_eq_true, Bool.or_eq_false_iff, Bool.true_eq, Bool.false_eq, reduceCtorEq] at hb2
      -- region 6  roundings.go:61
      refine awp_rseq [4] (by rfl) fun K hK => ?_
      simp (decide := true) only [aOps_nil, vOps_nil, fOps_nil, kOps_nil, ev, absV, absS, putD, Slots.put, Slots.get, Slots.keep, if_true, if_false, List.contains_cons, List.contains_nil, true_and, and_true, ↓ap_assign, pop_assign, rd_ne', ne_eq, not_false_eq_true, rd_any, AVal.cells, setAt, List.set_cons_zero, List.set_cons_succ, cellsAt, List.getD_cons_zero, List.getD_cons_succ, Nat.zero_add, Nat.reduceAdd, lv_bool, lv_int, lv_str, lv_nilPtr, lv_ptr, lv_nilSlice, lv_slice, lv_nilFunc, lv_func, lv_nilIface, lv_iface, lv_nilMap, lv_agg, lv_tuple, allLive, Bool.and_true, decA, hidx, Int.toNat_natCast, ← hL, hlost, show Int.toNat 1 = 1 from rfl, htl, show Int.toNat 0 = 0 from rfl]
      repeat (with_reducible refine And.intro ?_ ?_; · first | trivial | omega | (intro hg; simp only [Bool.and_eq_true, Bool.or_eq_true, Bool.not_eq_true', Bool.and_eq_false_iff, Bool.or_eq_false_iff, Bool.not_eq_false', decide_eq_true_eq, decide_eq_false_iff_not, eqNil] at hg; omega) )
      apply hK; clear hK K
      refine awp_ret ?_
      try simp only [thenA_ret, inBlockA_ret]
      refine retA_ret h (by repeat (first | exact Sub.refl _ | assumption | refine Sub.trans_set ?_ (by assumption))) (resPre_tmp (resPre_nil)) ?_
      simp (decide := true) only [aOps_nil, vOps_nil, fOps_nil, kOps_nil, ev, absV, absS, putD, Slots.put, Slots.get, Slots.keep, if_true, if_false, List.contains_cons, List.contains_nil, true_and, and_true, resOf_one, rd_ne', ne_eq, not_false_eq_true, rd_any, AVal.cells, setAt, List.set_cons_zero, List.set_cons_succ, cellsAt, List.getD_cons_zero, List.getD_cons_succ, Nat.zero_add, Nat.reduceAdd, lv_bool, lv_int, lv_str, lv_nilPtr, lv_ptr, lv_nilSlice, lv_slice, lv_nilFunc, lv_func, lv_nilIface, lv_iface, lv_nilMap, lv_agg, lv_tuple, allLive, Bool.and_true, decA, hidx, Int.toNat_natCast, ← hL, hlost, show Int.toNat 1 = 1 from rfl, htl, show Int.toNat 0 = 0 from rfl]
      rw [halfE, if_neg (by omega), ← hL, halfL, if_pos (by omega)]
    · try simp only [decide_eq_true_eq, decide_eq_false_iff_not, Bool.not_eq_true', Bool.not_eq_false', Bool.and_eq_true, Bool.and_eq_false_iff, Bool.or_eq_true, Bool.or_eq_false_iff, Bool.true_eq, Bool.false_eq, reduceCtorEq] at hb2
      -- region 7  roundings.go:62
      refine awp_rseq [28] (by rfl) fun K hK => ?_
      simp (decide := true) only [aOps_nil, vOps_nil, fOps_nil, kOps_nil, ev, absV, absS, putD, Slots.put, Slots.get, Slots.keep, if_true, if_false, List.contains_cons, List.contains_nil, true_and, and_true, ↓ap_move, pop_move, ↓ap_index, pop_index, pIndex_str Tryd.underlying9, ↓ap_binOp, pop_binOp, isNilC_int, cond_false, pBinX_int, pI_gtr, ↓ag_move, agP, agQ_some, gv, nthDst, gKnown_bool, gKnown_cond, guardB_cond, guardB_bool_true, guardB_bool_false, cv_cv, implies_true, Bool.not_not, decide_true, decide_false, Bool.not_false, Bool.not_true, condV_true, condV_false, forall_const, false_implies, pickV_true, pickV_false, Bool.and_true, Bool.and_false, Bool.true_and, Bool.false_and, Bool.or_true, Bool.or_false, Bool.true_or, Bool.false_or, ↓ag_slice, pop_slice, evO, pSliceS_00 Tryd.underlying9, pSliceS_0i Tryd.underlying9, pSliceS_i0 Tryd.underlying9, pSliceS_ii Tryd.underlying9, pSliceS, bndA_none, bndA_int, cv_slice, cp_slice, cv_slicelo, cp_slicelo, cv_slicehi, cp_slicehi, rd_ne', ne_eq, not_false_eq_true, rd_any, AVal.cells, setAt, List.set_cons_zero, List.set_cons_succ, cellsAt, List.getD_cons_zero, List.getD_cons_succ, Nat.zero_add, Nat.reduceAdd, lv_bool, lv_int, lv_str, lv_nilPtr, lv_ptr, lv_nilSlice, lv_slice, lv_nilFunc, lv_func, lv_nilIface, lv_iface, lv_nilMap, lv_agg, lv_tuple, allLive, Bool.and_true, decA, hidx, Int.toNat_natCast, ← hL, hlost, show Int.toNat 1 = 1 from rfl, htl, show Int.toNat 0 = 0 from rfl]
      repeat (with_reducible refine And.intro ?_ ?_; · first | trivial | omega | (intro hg; simp only [Bool.and_eq_true, Bool.or_eq_true, Bool.not_eq_true', Bool.and_eq_false_iff, Bool.or_eq_false_iff, Bool.not_eq_false', decide_eq_true_eq, decide_eq_false_iff_not, eqNil] at hg; omega) )
      first
      | (refine aOps_yes (by rfl) ?_; refine aOps_callV (V := .str (Go.Lib.trimB (List.drop 1 lost) 48)) (by rfl) (by rfl) (c_trim0 w₀ _ _ 48 (by decide) (by rw [← hL] at hll; simp; omega)) ?_)
      | (refine aOps_no (by rfl) (by rfl) ?_)
      | (refine aOps_gcall (V := .str (Go.Lib.trimB (List.drop 1 lost) 48)) (f := _) (cap := _) (xs := _) (by first | rfl | (simp (decide := true) only [gv, nthDst, Slots.get, if_true, if_false, gKnown_cond, gKnown_bool])) (fun hg => ⟨rfl, ?_⟩) (fun hg => c_trim0 w₀ _ _ 48 (by decide) (by rw [← hL] at hll; simp; omega)) ?_; · (simp (decide := true) only [gv, nthDst, putD, Slots.put, Slots.get, if_true, if_false, guardB_bool_true, guardB_bool_false, guardB_cond, Bool.not_not] at hg; simp (decide := true) only [evs, ev, putD, Slots.put, Slots.get, if_true, if_false, hg, condV_true, List.append_nil, List.map_cons, List.map_nil, absV, absS] <;> try rfl))
      simp (decide := true) only [aOps_nil, vOps_nil, fOps_nil, kOps_nil, ev, absV, absS, putD, Slots.put, Slots.get, Slots.keep, if_true, if_false, List.contains_cons, List.contains_nil, true_and, and_true, gv, nthDst, guardB_bool_true, guardB_bool_false, guardB_cond, ↓ag_binOp, pop_binOp, agP, agQ_some, gKnown_bool, gKnown_cond, cv_cv, implies_true, Bool.not_not, decide_true, decide_false, Bool.not_false, Bool.not_true, condV_true, condV_false, forall_const, false_implies, pickV_true, pickV_false, Bool.and_true, Bool.and_false, Bool.true_and, Bool.false_and, Bool.or_true, Bool.or_false, Bool.true_or, Bool.false_or, isNilC_str, cond_false, cv_binl, cv_binr, cp_binl, cp_binr, pBinX_str, pS_neq, ↓ap_pick, pop_pick, pPick_bool, pickV_cond_l, pickV_cond_r, pickV_cond_rn, cp_nest1, cp_nest2, cp_nest3, cp_nest4, pickV_and, pickV_or, ↓ap_assign, pop_assign, rd_ne', ne_eq, not_false_eq_true, rd_any, AVal.cells, setAt, List.set_cons_zero, List.set_cons_succ, cellsAt, List.getD_cons_zero, List.getD_cons_succ, Nat.zero_add, Nat.reduceAdd, lv_bool, lv_int, lv_str, lv_nilPtr, lv_ptr, lv_nilSlice, lv_slice, lv_nilFunc, lv_func, lv_nilIface, lv_iface, lv_nilMap, lv_agg, lv_tuple, allLive, Bool.and_true, decA, hidx, Int.toNat_natCast, ← hL, hlost, show Int.toNat 1 = 1 from rfl, htl, show Int.toNat 0 = 0 from rfl]
      repeat (with_reducible refine And.intro ?_ ?_; · first | trivial | omega | (intro hg; simp only [Bool.and_eq_true, Bool.or_eq_true, Bool.not_eq_true', Bool.and_eq_false_iff, Bool.or_eq_false_iff, Bool.not_eq_false', decide_eq_true_eq, decide_eq_false_iff_not, eqNil] at hg; omega) )
      apply hK; clear hK K
      refine awp_cond (b := _) rfl (fun hb3 => ?_) (fun hb3 => ?_)
      · try simp only [decide_eq_true_eq, decide_eq_false_iff_not, Bool.not_eq_true', Bool.not_eq_false', Bool.and_eq_true, Bool.and_eq_false_iff, Bool.or_eq_true, Bool.or_eq_false_iff, Bool.true_eq, Bool.false_eq, reduceCtorEq] at hb3
        -- region 8  roundings.go:63
        refine awp_rseq [4] (by rfl) fun K hK => ?_
        simp (decide := true) only [aOps_nil, vOps_nil, fOps_nil, kOps_nil, ev, absV, absS, putD, Slots.put, Slots.get, Slots.keep, if_true, if_false, List.contains_cons, List.contains_nil, true_and, and_true, ↓ap_assign, pop_assign, rd_ne', ne_eq, not_false_eq_true, rd_any, AVal.cells, setAt, List.set_cons_zero, List.set_cons_succ, cellsAt, List.getD_cons_zero, List.getD_cons_succ, Nat.zero_add, Nat.reduceAdd, lv_bool, lv_int, lv_str, lv_nilPtr, lv_ptr, lv_nilSlice, lv_slice, lv_nilFunc, lv_func, lv_nilIface, lv_iface, lv_nilMap, lv_agg, lv_tuple, allLive, Bool.and_true, decA, hidx, Int.toNat_natCast, ← hL, hlost, show Int.toNat 1 = 1 from rfl, htl, show Int.toNat 0 = 0 from rfl]
        repeat (with_reducible refine And.intro ?_ ?_; · first | trivial | omega | (intro hg; simp only [Bool.and_eq_true, Bool.or_eq_true, Bool.not_eq_true', Bool.and_eq_false_iff, Bool.or_eq_false_iff, Bool.not_eq_false', decide_eq_true_eq, decide_eq_false_iff_not, eqNil] at hg; omega) )
        apply hK; clear hK K
        refine awp_ret ?_
        try simp only [thenA_ret, inBlockA_ret]
        refine retA_ret h (by repeat (first | exact Sub.refl _ | assumption | refine Sub.trans_set ?_ (by assumption))) (resPre_tmp (resPre_nil)) ?_
        simp (decide := true) only [aOps_nil, vOps_nil, fOps_nil, kOps_nil, ev, absV, absS, putD, Slots.put, Slots.get, Slots.keep, if_true, if_false, List.contains_cons, List.contains_nil, true_and, and_true, resOf_one, rd_ne', ne_eq, not_false_eq_true, rd_any, AVal.cells, setAt, List.set_cons_zero, List.set_cons_succ, cellsAt, List.getD_cons_zero, List.getD_cons_succ, Nat.zero_add, Nat.reduceAdd, lv_bool, lv_int, lv_str, lv_nilPtr, lv_ptr, lv_nilSlice, lv_slice, lv_nilFunc, lv_func, lv_nilIface, lv_iface, lv_nilMap, lv_agg, lv_tuple, allLive, Bool.and_true, decA, hidx, Int.toNat_natCast, ← hL, hlost, show Int.toNat 1 = 1 from rfl, htl, show Int.toNat 0 = 0 from rfl]
        rw [halfE, if_neg (by omega), ← hL, halfL, if_neg (by omega), if_pos]
        rw [← trimB_nil]
        rcases hb3 with e | e
        · exact .inl (by omega)
        · exact .inr (by simpa using e)
      · try simp only [decide_eq_true_eq, decide_eq_false_iff_not, Bool.not_eq_true', Bool.not_eq_false', Bool.and_eq_true, Bool.and_eq_false_iff, Bool.or_eq_true, Bool.or_eq_false_iff, Bool.true_eq, Bool.false_eq, reduceCtorEq] at hb3
        refine awp_skip ?_
        change Awp _ _ _ _ _ _ _
        -- region 9  roundings.go:65
        refine awp_rseq [4] (by rfl) fun K hK => ?_
        simp (decide := true) only [aOps_nil, vOps_nil, fOps_nil, kOps_nil, ev, absV, absS, putD, Slots.put, Slots.get, Slots.keep, if_true, if_false, List.contains_cons, List.contains_nil, true_and, and_true, ↓ap_assign, pop_assign, rd_ne', ne_eq, not_false_eq_true, rd_any, AVal.cells, setAt, List.set_cons_zero, List.set_cons_succ, cellsAt, List.getD_cons_zero, List.getD_cons_succ, Nat.zero_add, Nat.reduceAdd, lv_bool, lv_int, lv_str, lv_nilPtr, lv_ptr, lv_nilSlice, lv_slice, lv_nilFunc, lv_func, lv_nilIface, lv_iface, lv_nilMap, lv_agg, lv_tuple, allLive, Bool.and_true, decA, hidx, Int.toNat_natCast, ← hL, hlost, show Int.toNat 1 = 1 from rfl, htl, show Int.toNat 0 = 0 from rfl]
        repeat (with_reducible refine And.intro ?_ ?_; · first | trivial | omega | (intro hg; simp only [Bool.and_eq_true, Bool.or_eq_true, Bool.not_eq_true', Bool.and_eq_false_iff, Bool.or_eq_false_iff, Bool.not_eq_false', decide_eq_true_eq, decide_eq_false_iff_not, eqNil] at hg; omega) )
        apply hK; clear hK K
        refine awp_ret ?_
        try simp only [thenA_ret, inBlockA_ret]
        refine retA_ret h (by repeat (first | exact Sub.refl _ | assumption | refine Sub.trans_set ?_ (by assumption))) (resPre_tmp (resPre_nil)) ?_
        simp (decide := true) only [aOps_nil, vOps_nil, fOps_nil, kOps_nil, ev, absV, absS, putD, Slots.put, Slots.get, Slots.keep, if_true, if_false, List.contains_cons, List.contains_nil, true_and, and_true, resOf_one, rd_ne', ne_eq, not_false_eq_true, rd_any, AVal.cells, setAt, List.set_cons_zero, List.set_cons_succ, cellsAt, List.getD_cons_zero, List.getD_cons_succ, Nat.zero_add, Nat.reduceAdd, lv_bool, lv_int, lv_str, lv_nilPtr, lv_ptr, lv_nilSlice, lv_slice, lv_nilFunc, lv_func, lv_nilIface, lv_iface, lv_nilMap, lv_agg, lv_tuple, allLive, Bool.and_true, decA, hidx, Int.toNat_natCast, ← hL, hlost, show Int.toNat 1 = 1 from rfl, htl, show Int.toNat 0 = 0 from rfl]
        rw [halfE, if_neg (by omega), ← hL, halfL, if_neg (by omega), if_neg]
        rw [← trimB_nil]
        rintro (e | e)
        · omega
        · exact e (by simpa using hb3.2)

def oddE (d : D) (s : Int) : Bool := decide (0 ≤ (d.dig.length : Int) - 1 - (d.scale - s)) && (decide ((d.dig.length : Int) - 1 - (d.scale - s) < d.dig.length) && decide ((d.dig.getD ((d.dig.length : Int) - 1 - (d.scale - s)).toNat 0).toNat % 2 = 1))

theorem c_odd (w₀ : World) (h : AHeap) (d : D) (s : Int) (sd : Small d) (hd : d.dig.all dg = true) (h1 : -62 ≤ s) (h2 : s ≤ 62) :
    ACall Tryd.prog w₀ 27 [decA d, .int .i64 s] h (fun v h' => v = .bool (oddE d s) ∧ h' = h) := by
  have ha1 := sd.l
  have ha2 := sd.s0
  have ha3 := sd.s1
  refine acall_intro (n := 33) (rs := [.tmp 4]) Tryd.func27 rfl rfl rfl rfl (Nat.le_of_ble_eq_true rfl) ?_
  simp only [initSlots]
  -- region 0  roundings.go:69
  refine awp_rseq [1, 2] (by rfl) fun K hK => ?_
  refine aOps_box (by rfl) (by rfl) (by rfl) fun k0q0 hk0q0 => ?_
  try have hf_0q0 : h k0q0 = none := by first | assumption | (simp only [AHeap.set_none] at hk0q0; simp only [hk0q0])
  skip
  simp (decide := true) only [aOps_nil, vOps_nil, fOps_nil, kOps_nil, ev, absV, absS, putD, Slots.put, Slots.get, Slots.keep, if_true, if_false, List.contains_cons, List.contains_nil, true_and, and_true, ↓ap_assign, pop_assign, rd_ne', ne_eq, not_false_eq_true, rd_any, AVal.cells, setAt, List.set_cons_zero, List.set_cons_succ, cellsAt, List.getD_cons_zero, List.getD_cons_succ, Nat.zero_add, Nat.reduceAdd, lv_bool, lv_int, lv_str, lv_nilPtr, lv_ptr, lv_nilSlice, lv_slice, lv_nilFunc, lv_func, lv_nilIface, lv_iface, lv_nilMap, lv_agg, lv_tuple, allLive, Bool.and_true, decA]
  repeat (with_reducible refine And.intro ?_ ?_; · first | trivial | omega | (intro hg; simp only [Bool.and_eq_true, Bool.or_eq_true, Bool.not_eq_true', Bool.and_eq_false_iff, Bool.or_eq_false_iff, Bool.not_eq_false', decide_eq_true_eq, decide_eq_false_iff_not, eqNil] at hg; omega) )
  apply hK; clear hK K
  -- region 1  roundings.go:71
  refine awp_rseq [2, 5] (by rfl) fun K hK => ?_
  simp (decide := true) only [aOps_nil, vOps_nil, fOps_nil, kOps_nil, ev, absV, absS, putD, Slots.put, Slots.get, Slots.keep, if_true, if_false, List.contains_cons, List.contains_nil, true_and, and_true, ↓ap_fieldAddr, pop_fieldAddr, fa32_1, ↓ap_loadL, apL_mk, pLoad_one ag9, ↓ap_len, pop_len, pLen_str Tryd.underlying9, ↓ap_binOp, pop_binOp, isNilC_int, cond_false, pBinX_int, pI_sub, fa32_2, pLoad_one ag3, ↓ap_move, pop_move, isNilC_tmp, ↓ap_assign, pop_assign, rd_ne', ne_eq, not_false_eq_true, rd_any, AVal.cells, setAt, List.set_cons_zero, List.set_cons_succ, cellsAt, List.getD_cons_zero, List.getD_cons_succ, Nat.zero_add, Nat.reduceAdd, lv_bool, lv_int, lv_str, lv_nilPtr, lv_ptr, lv_nilSlice, lv_slice, lv_nilFunc, lv_func, lv_nilIface, lv_iface, lv_nilMap, lv_agg, lv_tuple, allLive, Bool.and_true, decA]
  try simp (disch := omega) only [wrap_i64, wrap_u8]
  repeat (with_reducible refine And.intro ?_ ?_; · first | trivial | omega | (intro hg; simp only [Bool.and_eq_true, Bool.or_eq_true, Bool.not_eq_true', Bool.and_eq_false_iff, Bool.or_eq_false_iff, Bool.not_eq_false', decide_eq_true_eq, decide_eq_false_iff_not, eqNil] at hg; omega) )
  apply hK; clear hK K
  -- region 2  roundings.go:72
  refine awp_rseq [4] (by rfl) fun K hK => ?_
  simp (decide := true) only [aOps_nil, vOps_nil, fOps_nil, kOps_nil, ev, absV, absS, putD, Slots.put, Slots.get, Slots.keep, if_true, if_false, List.contains_cons, List.contains_nil, true_and, and_true, ↓ap_move, pop_move, ↓ap_binOp, pop_binOp, isNilC_int, cond_false, pBinX_int, pI_geq, ↓ag_move, agP, agQ_some, gv, nthDst, gKnown_bool, gKnown_cond, guardB_cond, guardB_bool_true, guardB_bool_false, cv_cv, implies_true, Bool.not_not, decide_true, decide_false, Bool.not_false, Bool.not_true, condV_true, condV_false, forall_const, false_implies, pickV_true, pickV_false, Bool.and_true, Bool.and_false, Bool.true_and, Bool.false_and, Bool.or_true, Bool.or_false, Bool.true_or, Bool.false_or, ↓ag_fieldAddr, pop_fieldAddr, fa32_1, cv_fieldAddr, cp_fieldAddr, ↓ag_loadL, apL_mk, agQL_some, agL_mk, agL_ld1, agL_ld2, agL_ld3, agL_ld4, agL_ld5, agL_ld6, pLoad_one ag9, cv_load, cp_load, ↓ag_len, pop_len, pLen_str Tryd.underlying9, cv_len, cp_len, ↓ag_binOp, isNilC_tmp, cv_binl, cv_binr, cp_binl, cp_binr, pI_lss, ↓ap_pick, pop_pick, pPick_bool, pickV_cond_l, pickV_cond_r, pickV_cond_rn, cp_nest1, cp_nest2, cp_nest3, cp_nest4, pickV_and, pickV_or, ↓ag_index, pop_index, pIndex_str Tryd.underlying9, cv_indexl, cv_indexr, cp_indexl, cp_indexr, pI_sub, pI_rem, pI_eql, ↓ap_assign, pop_assign, rd_ne', ne_eq, not_false_eq_true, rd_any, AVal.cells, setAt, List.set_cons_zero, List.set_cons_succ, cellsAt, List.getD_cons_zero, List.getD_cons_succ, Nat.zero_add, Nat.reduceAdd, lv_bool, lv_int, lv_str, lv_nilPtr, lv_ptr, lv_nilSlice, lv_slice, lv_nilFunc, lv_func, lv_nilIface, lv_iface, lv_nilMap, lv_agg, lv_tuple, allLive, Bool.and_true, decA]
  try simp (disch := omega) only [wrap_i64, wrap_u8]
  repeat (with_reducible refine And.intro ?_ ?_; · first | trivial | omega | (intro hg; simp only [Bool.and_eq_true, Bool.or_eq_true, Bool.not_eq_true', Bool.and_eq_false_iff, Bool.or_eq_false_iff, Bool.not_eq_false', decide_eq_true_eq, decide_eq_false_iff_not, eqNil] at hg; omega) )
  apply hK; clear hK K
  refine awp_ret ?_
  try simp only [thenA_ret, inBlockA_ret]
  refine retA_ret h (by repeat (first | exact Sub.refl _ | assumption | refine Sub.trans_set ?_ (by assumption))) (resPre_tmp (resPre_nil)) ?_
  simp (decide := true) only [aOps_nil, vOps_nil, fOps_nil, kOps_nil, ev, absV, absS, putD, Slots.put, Slots.get, Slots.keep, if_true, if_false, List.contains_cons, List.contains_nil, true_and, and_true, resOf_one, rd_ne', ne_eq, not_false_eq_true, rd_any, AVal.cells, setAt, List.set_cons_zero, List.set_cons_succ, cellsAt, List.getD_cons_zero, List.getD_cons_succ, Nat.zero_add, Nat.reduceAdd, lv_bool, lv_int, lv_str, lv_nilPtr, lv_ptr, lv_nilSlice, lv_slice, lv_nilFunc, lv_func, lv_nilIface, lv_iface, lv_nilMap, lv_agg, lv_tuple, allLive, Bool.and_true, decA]
  refine congrArg AVal.bool ?_
  unfold oddE
  by_cases c1 : 0 ≤ (d.dig.length : Int) - 1 - (d.scale - s)
  · by_cases c2 : (d.dig.length : Int) - 1 - (d.scale - s) < d.dig.length
    · have hg := dg_at hd ((d.dig.length : Int) - 1 - (d.scale - s)).toNat (by omega)
      rw [wrap_u8 (by omega) (by omega), Int.tmod_eq_emod_of_nonneg (by omega), Bool.and_assoc]
      congr 2
      rw [decide_eq_decide]
      omega
    · simp only [c2, decide_false, Bool.and_false, Bool.false_and]
  · simp only [c1, decide_false, Bool.and_false, Bool.false_and]

def awayE (d near : D) (s m : Int) : Bool :=
  if m = 2 then (if halfE d s = 0 then oddE near s else decide (0 < halfE d s))
  else if m = 3 then decide (0 < halfE d s)
  else if m = 1 then decide (0 ≤ halfE d s)
  else if m = 4 then true
  else if m = 5 then !d.neg
  else if m = 6 then d.neg
  else false

theorem c_away (w₀ : World) (h : AHeap) (d near : D) (s m : Int) (sd : Small d) (h1 : -62 ≤ s) (h2 : s ≤ 62) (h3 : s < d.scale) (sn : Small near) (hn : near.dig.all dg = true) :
    ACall Tryd.prog w₀ 17 [decA d, decA near, .int .i64 s, .int .u8 m] h (fun v h' => v = .bool (awayE d near s m) ∧ h' = h) := by
  refine acall_intro (n := 40) (rs := [.tmp 8]) Tryd.func17 rfl rfl rfl rfl (Nat.le_of_ble_eq_true rfl) ?_
  simp only [initSlots]
  -- region 0  roundings.go:76
  refine awp_rseq [2, 3, 4, 5] (by rfl) fun K hK => ?_
  refine aOps_box (by rfl) (by rfl) (by rfl) fun k0q0 hk0q0 => ?_
  try have hf_0q0 : h k0q0 = none := by first | assumption | (simp only [AHeap.set_none] at hk0q0; simp only [hk0q0])
  skip
  refine aOps_box (by rfl) (by rfl) (by rfl) fun k0q1 hk0q1 => ?_
  have ne_0q1_0q0 : k0q1 ≠ k0q0 := by simp only [AHeap.set_none] at hk0q1; simp only [hk0q1, ne_eq, not_false_eq_true]
  try have hf_0q1 : h k0q1 = none := by first | assumption | (simp only [AHeap.set_none] at hk0q1; simp only [hk0q1])
  skip
  simp (decide := true) only [aOps_nil, vOps_nil, fOps_nil, kOps_nil, ev, absV, absS, putD, Slots.put, Slots.get, Slots.keep, if_true, if_false, List.contains_cons, List.contains_nil, true_and, and_true, ↓ap_assign, pop_assign, rd_ne', ne_eq, not_false_eq_true, ne_0q1_0q0, ne_0q1_0q0.symm, rd_any, AVal.cells, setAt, List.set_cons_zero, List.set_cons_succ, cellsAt, List.getD_cons_zero, List.getD_cons_succ, Nat.zero_add, Nat.reduceAdd, lv_bool, lv_int, lv_str, lv_nilPtr, lv_ptr, lv_nilSlice, lv_slice, lv_nilFunc, lv_func, lv_nilIface, lv_iface, lv_nilMap, lv_agg, lv_tuple, allLive, Bool.and_true, decA]
  repeat (with_reducible refine And.intro ?_ ?_; · first | trivial | omega | (intro hg; simp only [Bool.and_eq_true, Bool.or_eq_true, Bool.not_eq_true', Bool.and_eq_false_iff, Bool.or_eq_false_iff, Bool.not_eq_false', decide_eq_true_eq, decide_eq_false_iff_not, eqNil] at hg; omega) )
  apply hK; clear hK K
  -- region 1  roundings.go:77
  refine awp_rseq [2, 3, 4, 5, 9] (by rfl) fun K hK => ?_
  simp (decide := true) only [aOps_nil, vOps_nil, fOps_nil, kOps_nil, ev, absV, absS, putD, Slots.put, Slots.get, Slots.keep, if_true, if_false, List.contains_cons, List.contains_nil, true_and, and_true, ↓ap_loadL, apL_mk, pLoad_agg ag32 sz32, ↓ap_move, pop_move, rd_ne', ne_eq, not_false_eq_true, ne_0q1_0q0, ne_0q1_0q0.symm, rd_any, AVal.cells, setAt, List.set_cons_zero, List.set_cons_succ, cellsAt, List.getD_cons_zero, List.getD_cons_succ, Nat.zero_add, Nat.reduceAdd, lv_bool, lv_int, lv_str, lv_nilPtr, lv_ptr, lv_nilSlice, lv_slice, lv_nilFunc, lv_func, lv_nilIface, lv_iface, lv_nilMap, lv_agg, lv_tuple, allLive, Bool.and_true, decA]
  repeat (with_reducible refine And.intro ?_ ?_; · first | trivial | omega | (intro hg; simp only [Bool.and_eq_true, Bool.or_eq_true, Bool.not_eq_true', Bool.and_eq_false_iff, Bool.or_eq_false_iff, Bool.not_eq_false', decide_eq_true_eq, decide_eq_false_iff_not, eqNil] at hg; omega) )
  refine aOps_callV (V := .int .i64 (halfE d s)) (by rfl) (by rfl) (c_half w₀ _ d s sd h1 h2 h3) ?_
  simp (decide := true) only [aOps_nil, vOps_nil, fOps_nil, kOps_nil, ev, absV, absS, putD, Slots.put, Slots.get, Slots.keep, if_true, if_false, List.contains_cons, List.contains_nil, true_and, and_true, ↓ap_assign, pop_assign, rd_ne', ne_eq, not_false_eq_true, ne_0q1_0q0, ne_0q1_0q0.symm, rd_any, AVal.cells, setAt, List.set_cons_zero, List.set_cons_succ, cellsAt, List.getD_cons_zero, List.getD_cons_succ, Nat.zero_add, Nat.reduceAdd, lv_bool, lv_int, lv_str, lv_nilPtr, lv_ptr, lv_nilSlice, lv_slice, lv_nilFunc, lv_func, lv_nilIface, lv_iface, lv_nilMap, lv_agg, lv_tuple, allLive, Bool.and_true, decA]
  repeat (with_reducible refine And.intro ?_ ?_; · first | trivial | omega | (intro hg; simp only [Bool.and_eq_true, Bool.or_eq_true, Bool.not_eq_true', Bool.and_eq_false_iff, Bool.or_eq_false_iff, Bool.not_eq_false', decide_eq_true_eq, decide_eq_false_iff_not, eqNil] at hg; omega) )
  apply hK; clear hK K
  refine awp_seq ?_
  -- region 2  roundings.go:78
  refine awp_rseq [2, 4, 5, 9, 13] (by rfl) fun K hK => ?_
  simp (decide := true) only [aOps_nil, vOps_nil, fOps_nil, kOps_nil, ev, absV, absS, putD, Slots.put, Slots.get, Slots.keep, if_true, if_false, List.contains_cons, List.contains_nil, true_and, and_true, ↓ap_move, pop_move, rd_ne', ne_eq, not_false_eq_true, ne_0q1_0q0, ne_0q1_0q0.symm, rd_any, AVal.cells, setAt, List.set_cons_zero, List.set_cons_succ, cellsAt, List.getD_cons_zero, List.getD_cons_succ, Nat.zero_add, Nat.reduceAdd, lv_bool, lv_int, lv_str, lv_nilPtr, lv_ptr, lv_nilSlice, lv_slice, lv_nilFunc, lv_func, lv_nilIface, lv_iface, lv_nilMap, lv_agg, lv_tuple, allLive, Bool.and_true, decA]
  repeat (with_reducible refine And.intro ?_ ?_; · first | trivial | omega | (intro hg; simp only [Bool.and_eq_true, Bool.or_eq_true, Bool.not_eq_true', Bool.and_eq_false_iff, Bool.or_eq_false_iff, Bool.not_eq_false', decide_eq_true_eq, decide_eq_false_iff_not, eqNil] at hg; omega) )
  apply hK; clear hK K
  refine awp_block ?_
  refine awp_seq ?_
  refine awp_block ?_
  refine awp_seq ?_
  refine awp_block ?_
  refine awp_seq ?_
  refine awp_block ?_
  refine awp_seq ?_
  refine awp_block ?_
  refine awp_seq ?_
  refine awp_block ?_
  refine awp_seq ?_
  refine awp_block ?_
  refine awp_seq ?_
  refine awp_seq ?_
  -- region 3  roundings.go:79
  refine awp_rseq [2, 4, 5, 9, 13, 14] (by rfl) fun K hK => ?_
  simp (decide := true) only [aOps_nil, vOps_nil, fOps_nil, kOps_nil, ev, absV, absS, putD, Slots.put, Slots.get, Slots.keep, if_true, if_false, List.contains_cons, List.contains_nil, true_and, and_true, ↓ap_binOp, pop_binOp, isNilC_int, cond_false, pBinX_int, pI_eql, ↓ap_assign, pop_assign, rd_ne', ne_eq, not_false_eq_true, ne_0q1_0q0, ne_0q1_0q0.symm, rd_any, AVal.cells, setAt, List.set_cons_zero, List.set_cons_succ, cellsAt, List.getD_cons_zero, List.getD_cons_succ, Nat.zero_add, Nat.reduceAdd, lv_bool, lv_int, lv_str, lv_nilPtr, lv_ptr, lv_nilSlice, lv_slice, lv_nilFunc, lv_func, lv_nilIface, lv_iface, lv_nilMap, lv_agg, lv_tuple, allLive, Bool.and_true, decA]
  repeat (with_reducible refine And.intro ?_ ?_; · first | trivial | omega | (intro hg; simp only [Bool.and_eq_true, Bool.or_eq_true, Bool.not_eq_true', Bool.and_eq_false_iff, Bool.or_eq_false_iff, Bool.not_eq_false', decide_eq_true_eq, decide_eq_false_iff_not, eqNil] at hg; omega) )
  apply hK; clear hK K
  refine awp_cond (b := _) rfl (fun hb1 => ?_) (fun hb1 => ?_)
  · try simp only [decide_eq_true_eq, decide_eq_false_iff_not, Bool.not_eq_true', Bool.not_eq_false', Bool.and_eq_true, Bool.and_eq_false_iff, Bool.or_eq_true, Bool.or_eq_false_iff, Bool.true_eq, Bool.false_eq, reduceCtorEq] at hb1
    refine awp_exit ?_
    change Awp _ _ _ _ _ _ _
    -- region 9  roundings.go:80
    refine awp_rseq [2, 5, 9, 27] (by rfl) fun K hK => ?_
    simp (decide := true) only [aOps_nil, vOps_nil, fOps_nil, kOps_nil, ev, absV, absS, putD, Slots.put, Slots.get, Slots.keep, if_true, if_false, List.contains_cons, List.contains_nil, true_and, and_true, ↓ap_move, pop_move, ↓ap_binOp, pop_binOp, isNilC_int, cond_false, pBinX_int, pI_eql, rd_ne', ne_eq, not_false_eq_true, ne_0q1_0q0, ne_0q1_0q0.symm, rd_any, AVal.cells, setAt, List.set_cons_zero, List.set_cons_succ, cellsAt, List.getD_cons_zero, List.getD_cons_succ, Nat.zero_add, Nat.reduceAdd, lv_bool, lv_int, lv_str, lv_nilPtr, lv_ptr, lv_nilSlice, lv_slice, lv_nilFunc, lv_func, lv_nilIface, lv_iface, lv_nilMap, lv_agg, lv_tuple, allLive, Bool.and_true, decA]
    repeat (with_reducible refine And.intro ?_ ?_; · first | trivial | omega | (intro hg; simp only [Bool.and_eq_true, Bool.or_eq_true, Bool.not_eq_true', Bool.and_eq_false_iff, Bool.or_eq_false_iff, Bool.not_eq_false', decide_eq_true_eq, decide_eq_false_iff_not, eqNil] at hg; omega) )
    apply hK; clear hK K
    refine awp_cond (b := _) rfl (fun hb2 => ?_) (fun hb2 => ?_)
    · try simp only [decide_eq_true_eq, decide_eq_false_iff_not, Bool.not_eq_true', Bool.not_eq_false', Bool.and_eq_true, Bool.and_eq_false_iff, Bool.or_eq_true, Bool.or_eq_false_iff, Bool.true_eq, Bool.false_eq, reduceCtorEq] at hb2
      -- region 10  roundings.go:81
      refine awp_rseq [8] (by rfl) fun K hK => ?_
      simp (decide := true) only [aOps_nil, vOps_nil, fOps_nil, kOps_nil, ev, absV, absS, putD, Slots.put, Slots.get, Slots.keep, if_true, if_false, List.contains_cons, List.contains_nil, true_and, and_true, ↓ap_loadL, apL_mk, pLoad_agg ag32 sz32, ↓ap_move, pop_move, rd_ne', ne_eq, not_false_eq_true, ne_0q1_0q0, ne_0q1_0q0.symm, rd_any, AVal.cells, setAt, List.set_cons_zero, List.set_cons_succ, cellsAt, List.getD_cons_zero, List.getD_cons_succ, Nat.zero_add, Nat.reduceAdd, lv_bool, lv_int, lv_str, lv_nilPtr, lv_ptr, lv_nilSlice, lv_slice, lv_nilFunc, lv_func, lv_nilIface, lv_iface, lv_nilMap, lv_agg, lv_tuple, allLive, Bool.and_true, decA]
      repeat (with_reducible refine And.intro ?_ ?_; · first | trivial | omega | (intro hg; simp only [Bool.and_eq_true, Bool.or_eq_true, Bool.not_eq_true', Bool.and_eq_false_iff, Bool.or_eq_false_iff, Bool.not_eq_false', decide_eq_true_eq, decide_eq_false_iff_not, eqNil] at hg; omega) )
      refine aOps_callV (V := .bool (oddE near s)) (by rfl) (by rfl) (c_odd w₀ _ near s sn hn h1 h2) ?_
      simp (decide := true) only [aOps_nil, vOps_nil, fOps_nil, kOps_nil, ev, absV, absS, putD, Slots.put, Slots.get, Slots.keep, if_true, if_false, List.contains_cons, List.contains_nil, true_and, and_true, ↓ap_assign, pop_assign, rd_ne', ne_eq, not_false_eq_true, ne_0q1_0q0, ne_0q1_0q0.symm, rd_any, AVal.cells, setAt, List.set_cons_zero, List.set_cons_succ, cellsAt, List.getD_cons_zero, List.getD_cons_succ, Nat.zero_add, Nat.reduceAdd, lv_bool, lv_int, lv_str, lv_nilPtr, lv_ptr, lv_nilSlice, lv_slice, lv_nilFunc, lv_func, lv_nilIface, lv_iface, lv_nilMap, lv_agg, lv_tuple, allLive, Bool.and_true, decA]
      repeat (with_reducible refine And.intro ?_ ?_; · first | trivial | omega | (intro hg; simp only [Bool.and_eq_true, Bool.or_eq_true, Bool.not_eq_true', Bool.and_eq_false_iff, Bool.or_eq_false_iff, Bool.not_eq_false', decide_eq_true_eq, decide_eq_false_iff_not, eqNil] at hg; omega) )
      apply hK; clear hK K
      refine awp_ret ?_
      try simp only [thenA_ret, inBlockA_ret]
      refine retA_ret h (by repeat (first | exact Sub.refl _ | assumption | refine Sub.trans_set ?_ (by assumption))) (resPre_tmp (resPre_nil)) ?_
      simp (decide := true) only [aOps_nil, vOps_nil, fOps_nil, kOps_nil, ev, absV, absS, putD, Slots.put, Slots.get, Slots.keep, if_true, if_false, List.contains_cons, List.contains_nil, true_and, and_true, resOf_one, rd_ne', ne_eq, not_false_eq_true, ne_0q1_0q0, ne_0q1_0q0.symm, rd_any, AVal.cells, setAt, List.set_cons_zero, List.set_cons_succ, cellsAt, List.getD_cons_zero, List.getD_cons_succ, Nat.zero_add, Nat.reduceAdd, lv_bool, lv_int, lv_str, lv_nilPtr, lv_ptr, lv_nilSlice, lv_slice, lv_nilFunc, lv_func, lv_nilIface, lv_iface, lv_nilMap, lv_agg, lv_tuple, allLive, Bool.and_true, decA]
      refine congrArg AVal.bool ?_; unfold awayE; simp only [*, if_true, if_false, Int.reduceEq, reduceCtorEq]
    · try simp only [decide_eq_true_eq, decide_eq_false_iff_not, Bool.not_eq_true', Bool.not_eq_false', Bool.and_eq_true, Bool.and_eq_false_iff, Bool.or_eq_true, Bool.or_eq_false_iff, Bool.true_eq, Bool.false_eq, reduceCtorEq] at hb2
      refine awp_skip ?_
      change Awp _ _ _ _ _ _ _
      refine awp_seq ?_
      -- region 11  roundings.go:85
      refine awp_rseq [8] (by rfl) fun K hK => ?_
      simp (decide := true) only [aOps_nil, vOps_nil, fOps_nil, kOps_nil, ev, absV, absS, putD, Slots.put, Slots.get, Slots.keep, if_true, if_false, List.contains_cons, List.contains_nil, true_and, and_true, ↓ap_move, pop_move, ↓ap_binOp, pop_binOp, isNilC_int, cond_false, pBinX_int, pI_gtr, ↓ap_assign, pop_assign, rd_ne', ne_eq, not_false_eq_true, ne_0q1_0q0, ne_0q1_0q0.symm, rd_any, AVal.cells, setAt, List.set_cons_zero, List.set_cons_succ, cellsAt, List.getD_cons_zero, List.getD_cons_succ, Nat.zero_add, Nat.reduceAdd, lv_bool, lv_int, lv_str, lv_nilPtr, lv_ptr, lv_nilSlice, lv_slice, lv_nilFunc, lv_func, lv_nilIface, lv_iface, lv_nilMap, lv_agg, lv_tuple, allLive, Bool.and_true, decA]
      repeat (with_reducible refine And.intro ?_ ?_; · first | trivial | omega | (intro hg; simp only [Bool.and_eq_true, Bool.or_eq_true, Bool.not_eq_true', Bool.and_eq_false_iff, Bool.or_eq_false_iff, Bool.not_eq_false', decide_eq_true_eq, decide_eq_false_iff_not, eqNil] at hg; omega) )
      apply hK; clear hK K
      refine awp_ret ?_
      try simp only [thenA_ret, inBlockA_ret]
      refine retA_ret h (by repeat (first | exact Sub.refl _ | assumption | refine Sub.trans_set ?_ (by assumption))) (resPre_tmp (resPre_nil)) ?_
      simp (decide := true) only [aOps_nil, vOps_nil, fOps_nil, kOps_nil, ev, absV, absS, putD, Slots.put, Slots.get, Slots.keep, if_true, if_false, List.contains_cons, List.contains_nil, true_and, and_true, resOf_one, rd_ne', ne_eq, not_false_eq_true, ne_0q1_0q0, ne_0q1_0q0.symm, rd_any, AVal.cells, setAt, List.set_cons_zero, List.set_cons_succ, cellsAt, List.getD_cons_zero, List.getD_cons_succ, Nat.zero_add, Nat.reduceAdd, lv_bool, lv_int, lv_str, lv_nilPtr, lv_ptr, lv_nilSlice, lv_slice, lv_nilFunc, lv_func, lv_nilIface, lv_iface, lv_nilMap, lv_agg, lv_tuple, allLive, Bool.and_true, decA]
      refine congrArg AVal.bool ?_; unfold awayE; simp only [*, if_true, if_false, Int.reduceEq, reduceCtorEq]
  · try simp only [decide_eq_true_eq, decide_eq_false_iff_not, Bool.not_eq_true', Bool.not_eq_false', Bool.and_eq_true, Bool.and_eq_false_iff, Bool.or_eq_true, Bool.or_eq_false_iff, Bool.true_eq, Bool.false_eq, reduceCtorEq] at hb1
    refine awp_skip ?_
    change Awp _ _ _ _ _ _ _
    refine awp_seq ?_
    -- region 4  roundings.go:84
    refine awp_rseq [4, 9, 13, 16] (by rfl) fun K hK => ?_
    simp (decide := true) only [aOps_nil, vOps_nil, fOps_nil, kOps_nil, ev, absV, absS, putD, Slots.put, Slots.get, Slots.keep, if_true, if_false, List.contains_cons, List.contains_nil, true_and, and_true, ↓ap_binOp, pop_binOp, isNilC_int, cond_false, pBinX_int, pI_eql, ↓ap_assign, pop_assign, rd_ne', ne_eq, not_false_eq_true, ne_0q1_0q0, ne_0q1_0q0.symm, rd_any, AVal.cells, setAt, List.set_cons_zero, List.set_cons_succ, cellsAt, List.getD_cons_zero, List.getD_cons_succ, Nat.zero_add, Nat.reduceAdd, lv_bool, lv_int, lv_str, lv_nilPtr, lv_ptr, lv_nilSlice, lv_slice, lv_nilFunc, lv_func, lv_nilIface, lv_iface, lv_nilMap, lv_agg, lv_tuple, allLive, Bool.and_true, decA]
    repeat (with_reducible refine And.intro ?_ ?_; · first | trivial | omega | (intro hg; simp only [Bool.and_eq_true, Bool.or_eq_true, Bool.not_eq_true', Bool.and_eq_false_iff, Bool.or_eq_false_iff, Bool.not_eq_false', decide_eq_true_eq, decide_eq_false_iff_not, eqNil] at hg; omega) )
    apply hK; clear hK K
    refine awp_cond (b := _) rfl (fun hb3 => ?_) (fun hb3 => ?_)
    · try simp only [decide_eq_true_eq, decide_eq_false_iff_not, Bool.not_eq_true', Bool.not_eq_false', Bool.and_eq_true, Bool.and_eq_false_iff, Bool.or_eq_true, Bool.or_eq_false_iff, Bool.true_eq, Bool.false_eq, reduceCtorEq] at hb3
      refine awp_exit ?_
      change Awp _ _ _ _ _ _ _
      refine awp_seq ?_
      -- region 11  roundings.go:85
      refine awp_rseq [8] (by rfl) fun K hK => ?_
      simp (decide := true) only [aOps_nil, vOps_nil, fOps_nil, kOps_nil, ev, absV, absS, putD, Slots.put, Slots.get, Slots.keep, if_true, if_false, List.contains_cons, List.contains_nil, true_and, and_true, ↓ap_move, pop_move, ↓ap_binOp, pop_binOp, isNilC_int, cond_false, pBinX_int, pI_gtr, ↓ap_assign, pop_assign, rd_ne', ne_eq, not_false_eq_true, ne_0q1_0q0, ne_0q1_0q0.symm, rd_any, AVal.cells, setAt, List.set_cons_zero, List.set_cons_succ, cellsAt, List.getD_cons_zero, List.getD_cons_succ, Nat.zero_add, Nat.reduceAdd, lv_bool, lv_int, lv_str, lv_nilPtr, lv_ptr, lv_nilSlice, lv_slice, lv_nilFunc, lv_func, lv_nilIface, lv_iface, lv_nilMap, lv_agg, lv_tuple, allLive, Bool.and_true, decA]
      repeat (with_reducible refine And.intro ?_ ?_; · first | trivial | omega | (intro hg; simp only [Bool.and_eq_true, Bool.or_eq_true, Bool.not_eq_true', Bool.and_eq_false_iff, Bool.or_eq_false_iff, Bool.not_eq_false', decide_eq_true_eq, decide_eq_false_iff_not, eqNil] at hg; omega) )
      apply hK; clear hK K
      refine awp_ret ?_
      try simp only [thenA_ret, inBlockA_ret]
      refine retA_ret h (by repeat (first | exact Sub.refl _ | assumption | refine Sub.trans_set ?_ (by assumption))) (resPre_tmp (resPre_nil)) ?_
      simp (decide := true) only [aOps_nil, vOps_nil, fOps_nil, kOps_nil, ev, absV, absS, putD, Slots.put, Slots.get, Slots.keep, if_true, if_false, List.contains_cons, List.contains_nil, true_and, and_true, resOf_one, rd_ne', ne_eq, not_false_eq_true, ne_0q1_0q0, ne_0q1_0q0.symm, rd_any, AVal.cells, setAt, List.set_cons_zero, List.set_cons_succ, cellsAt, List.getD_cons_zero, List.getD_cons_succ, Nat.zero_add, Nat.reduceAdd, lv_bool, lv_int, lv_str, lv_nilPtr, lv_ptr, lv_nilSlice, lv_slice, lv_nilFunc, lv_func, lv_nilIface, lv_iface, lv_nilMap, lv_agg, lv_tuple, allLive, Bool.and_true, decA]
      refine congrArg AVal.bool ?_; unfold awayE; simp only [*, if_true, if_false, Int.reduceEq, reduceCtorEq]
    · try simp only [decide_eq_true_eq, decide_eq_false_iff_not, Bool.not_eq_true', Bool.not_eq_false', Bool.and_eq_true, Bool.and_eq_false_iff, Bool.or_eq_true, Bool.or_eq_false_iff, Bool.true_eq, Bool.false_eq, reduceCtorEq] at hb3
      refine awp_skip ?_
      change Awp _ _ _ _ _ _ _
      refine awp_seq ?_
      -- region 5  roundings.go:86
      refine awp_rseq [4, 9, 13, 18] (by rfl) fun K hK => ?_
      simp (decide := true) only [aOps_nil, vOps_nil, fOps_nil, kOps_nil, ev, absV, absS, putD, Slots.put, Slots.get, Slots.keep, if_true, if_false, List.contains_cons, List.contains_nil, true_and, and_true, ↓ap_binOp, pop_binOp, isNilC_int, cond_false, pBinX_int, pI_eql, ↓ap_assign, pop_assign, rd_ne', ne_eq, not_false_eq_true, ne_0q1_0q0, ne_0q1_0q0.symm, rd_any, AVal.cells, setAt, List.set_cons_zero, List.set_cons_succ, cellsAt, List.getD_cons_zero, List.getD_cons_succ, Nat.zero_add, Nat.reduceAdd, lv_bool, lv_int, lv_str, lv_nilPtr, lv_ptr, lv_nilSlice, lv_slice, lv_nilFunc, lv_func, lv_nilIface, lv_iface, lv_nilMap, lv_agg, lv_tuple, allLive, Bool.and_true, decA]
      repeat (with_reducible refine And.intro ?_ ?_; · first | trivial | omega | (intro hg; simp only [Bool.and_eq_true, Bool.or_eq_true, Bool.not_eq_true', Bool.and_eq_false_iff, Bool.or_eq_false_iff, Bool.not_eq_false', decide_eq_true_eq, decide_eq_false_iff_not, eqNil] at hg; omega) )
      apply hK; clear hK K
      refine awp_cond (b := _) rfl (fun hb4 => ?_) (fun hb4 => ?_)
      · try simp only [decide_eq_true_eq, decide_eq_false_iff_not, Bool.not_eq_true', Bool.not_eq_false', Bool.and_eq_true, Bool.and_eq_false_iff, Bool.or_eq_true, Bool.or_eq_false_iff, Bool.true_eq, Bool.false_eq, reduceCtorEq] at hb4
        refine awp_exit ?_
        change Awp _ _ _ _ _ _ _
        refine awp_seq ?_
        -- region 12  roundings.go:87
        refine awp_rseq [8] (by rfl) fun K hK => ?_
        simp (decide := true) only [aOps_nil, vOps_nil, fOps_nil, kOps_nil, ev, absV, absS, putD, Slots.put, Slots.get, Slots.keep, if_true, if_false, List.contains_cons, List.contains_nil, true_and, and_true, ↓ap_move, pop_move, ↓ap_binOp, pop_binOp, isNilC_int, cond_false, pBinX_int, pI_geq, ↓ap_assign, pop_assign, rd_ne', ne_eq, not_false_eq_true, ne_0q1_0q0, ne_0q1_0q0.symm, rd_any, AVal.cells, setAt, List.set_cons_zero, List.set_cons_succ, cellsAt, List.getD_cons_zero, List.getD_cons_succ, Nat.zero_add, Nat.reduceAdd, lv_bool, lv_int, lv_str, lv_nilPtr, lv_ptr, lv_nilSlice, lv_slice, lv_nilFunc, lv_func, lv_nilIface, lv_iface, lv_nilMap, lv_agg, lv_tuple, allLive, Bool.and_true, decA]
        repeat (with_reducible refine And.intro ?_ ?_; · first | trivial | omega | (intro hg; simp only [Bool.and_eq_true, Bool.or_eq_true, Bool.not_eq_true', Bool.and_eq_false_iff, Bool.or_eq_false_iff, Bool.not_eq_false', decide_eq_true_eq, decide_eq_false_iff_not, eqNil] at hg; omega) )
        apply hK; clear hK K
        refine awp_ret ?_
        try simp only [thenA_ret, inBlockA_ret]
        refine retA_ret h (by repeat (first | exact Sub.refl _ | assumption | refine Sub.trans_set ?_ (by assumption))) (resPre_tmp (resPre_nil)) ?_
        simp (decide := true) only [aOps_nil, vOps_nil, fOps_nil, kOps_nil, ev, absV, absS, putD, Slots.put, Slots.get, Slots.keep, if_true, if_false, List.contains_cons, List.contains_nil, true_and, and_true, resOf_one, rd_ne', ne_eq, not_false_eq_true, ne_0q1_0q0, ne_0q1_0q0.symm, rd_any, AVal.cells, setAt, List.set_cons_zero, List.set_cons_succ, cellsAt, List.getD_cons_zero, List.getD_cons_succ, Nat.zero_add, Nat.reduceAdd, lv_bool, lv_int, lv_str, lv_nilPtr, lv_ptr, lv_nilSlice, lv_slice, lv_nilFunc, lv_func, lv_nilIface, lv_iface, lv_nilMap, lv_agg, lv_tuple, allLive, Bool.and_true, decA]
        refine congrArg AVal.bool ?_; unfold awayE; simp only [*, if_true, if_false, Int.reduceEq, reduceCtorEq]
      · try simp only [decide_eq_true_eq, decide_eq_false_iff_not, Bool.not_eq_true', Bool.not_eq_false', Bool.and_eq_true, Bool.and_eq_false_iff, Bool.or_eq_true, Bool.or_eq_false_iff, Bool.true_eq, Bool.false_eq, reduceCtorEq] at hb4
        refine awp_skip ?_
        change Awp _ _ _ _ _ _ _
        refine awp_seq ?_
        -- region 6  roundings.go:88
        refine awp_rseq [4, 13, 20] (by rfl) fun K hK => ?_
        simp (decide := true) only [aOps_nil, vOps_nil, fOps_nil, kOps_nil, ev, absV, absS, putD, Slots.put, Slots.get, Slots.keep, if_true, if_false, List.contains_cons, List.contains_nil, true_and, and_true, ↓ap_binOp, pop_binOp, isNilC_int, cond_false, pBinX_int, pI_eql, ↓ap_assign, pop_assign, rd_ne', ne_eq, not_false_eq_true, ne_0q1_0q0, ne_0q1_0q0.symm, rd_any, AVal.cells, setAt, List.set_cons_zero, List.set_cons_succ, cellsAt, List.getD_cons_zero, List.getD_cons_succ, Nat.zero_add, Nat.reduceAdd, lv_bool, lv_int, lv_str, lv_nilPtr, lv_ptr, lv_nilSlice, lv_slice, lv_nilFunc, lv_func, lv_nilIface, lv_iface, lv_nilMap, lv_agg, lv_tuple, allLive, Bool.and_true, decA]
        repeat (with_reducible refine And.intro ?_ ?_; · first | trivial | omega | (intro hg; simp only [Bool.and_eq_true, Bool.or_eq_true, Bool.not_eq_true', Bool.and_eq_false_iff, Bool.or_eq_false_iff, Bool.not_eq_false', decide_eq_true_eq, decide_eq_false_iff_not, eqNil] at hg; omega) )
        apply hK; clear hK K
        refine awp_cond (b := _) rfl (fun hb5 => ?_) (fun hb5 => ?_)
        · try simp only [decide_eq_true_eq, decide_eq_false_iff_not, Bool.not_eq_true', Bool.not_eq_false', Bool.and_eq_true, Bool.and_eq_false_iff, Bool.or_eq_true, Bool.or_eq_false_iff, Bool.true_eq, Bool.false_eq, reduceCtorEq] at hb5
          refine awp_exit ?_
          change Awp _ _ _ _ _ _ _
          refine awp_seq ?_
          -- region 13  roundings.go:89
          refine awp_rseq [8] (by rfl) fun K hK => ?_
          simp (decide := true) only [aOps_nil, vOps_nil, fOps_nil, kOps_nil, ev, absV, absS, putD, Slots.put, Slots.get, Slots.keep, if_true, if_false, List.contains_cons, List.contains_nil, true_and, and_true, ↓ap_assign, pop_assign, rd_ne', ne_eq, not_false_eq_true, ne_0q1_0q0, ne_0q1_0q0.symm, rd_any, AVal.cells, setAt, List.set_cons_zero, List.set_cons_succ, cellsAt, List.getD_cons_zero, List.getD_cons_succ, Nat.zero_add, Nat.reduceAdd, lv_bool, lv_int, lv_str, lv_nilPtr, lv_ptr, lv_nilSlice, lv_slice, lv_nilFunc, lv_func, lv_nilIface, lv_iface, lv_nilMap, lv_agg, lv_tuple, allLive, Bool.and_true, decA]
          repeat (with_reducible refine And.intro ?_ ?_; · first | trivial | omega | (intro hg; simp only [Bool.and_eq_true, Bool.or_eq_true, Bool.not_eq_true', Bool.and_eq_false_iff, Bool.or_eq_false_iff, Bool.not_eq_false', decide_eq_true_eq, decide_eq_false_iff_not, eqNil] at hg; omega) )
          apply hK; clear hK K
          refine awp_ret ?_
          try simp only [thenA_ret, inBlockA_ret]
          refine retA_ret h (by repeat (first | exact Sub.refl _ | assumption | refine Sub.trans_set ?_ (by assumption))) (resPre_tmp (resPre_nil)) ?_
          simp (decide := true) only [aOps_nil, vOps_nil, fOps_nil, kOps_nil, ev, absV, absS, putD, Slots.put, Slots.get, Slots.keep, if_true, if_false, List.contains_cons, List.contains_nil, true_and, and_true, resOf_one, rd_ne', ne_eq, not_false_eq_true, ne_0q1_0q0, ne_0q1_0q0.symm, rd_any, AVal.cells, setAt, List.set_cons_zero, List.set_cons_succ, cellsAt, List.getD_cons_zero, List.getD_cons_succ, Nat.zero_add, Nat.reduceAdd, lv_bool, lv_int, lv_str, lv_nilPtr, lv_ptr, lv_nilSlice, lv_slice, lv_nilFunc, lv_func, lv_nilIface, lv_iface, lv_nilMap, lv_agg, lv_tuple, allLive, Bool.and_true, decA]
          refine congrArg AVal.bool ?_; unfold awayE; simp only [*, if_true, if_false, Int.reduceEq, reduceCtorEq]
        · try simp only [decide_eq_true_eq, decide_eq_false_iff_not, Bool.not_eq_true', Bool.not_eq_false', Bool.and_eq_true, Bool.and_eq_false_iff, Bool.or_eq_true, Bool.or_eq_false_iff, Bool.true_eq, Bool.false_eq, reduceCtorEq] at hb5
          refine awp_skip ?_
          change Awp _ _ _ _ _ _ _
          refine awp_seq ?_
          -- region 7  roundings.go:90
          refine awp_rseq [4, 13, 22] (by rfl) fun K hK => ?_
          simp (decide := true) only [aOps_nil, vOps_nil, fOps_nil, kOps_nil, ev, absV, absS, putD, Slots.put, Slots.get, Slots.keep, if_true, if_false, List.contains_cons, List.contains_nil, true_and, and_true, ↓ap_binOp, pop_binOp, isNilC_int, cond_false, pBinX_int, pI_eql, ↓ap_assign, pop_assign, rd_ne', ne_eq, not_false_eq_true, ne_0q1_0q0, ne_0q1_0q0.symm, rd_any, AVal.cells, setAt, List.set_cons_zero, List.set_cons_succ, cellsAt, List.getD_cons_zero, List.getD_cons_succ, Nat.zero_add, Nat.reduceAdd, lv_bool, lv_int, lv_str, lv_nilPtr, lv_ptr, lv_nilSlice, lv_slice, lv_nilFunc, lv_func, lv_nilIface, lv_iface, lv_nilMap, lv_agg, lv_tuple, allLive, Bool.and_true, decA]
          repeat (with_reducible refine And.intro ?_ ?_; · first | trivial | omega | (intro hg; simp only [Bool.and_eq_true, Bool.or_eq_true, Bool.not_eq_true', Bool.and_eq_false_iff, Bool.or_eq_false_iff, Bool.not_eq_false', decide_eq_true_eq, decide_eq_false_iff_not, eqNil] at hg; omega) )
          apply hK; clear hK K
          refine awp_cond (b := _) rfl (fun hb6 => ?_) (fun hb6 => ?_)
          · try simp only [decide_eq_true_eq, decide_eq_false_iff_not, Bool.not_eq_true', Bool.not_eq_false', Bool.and_eq_true, Bool.and_eq_false_iff, Bool.or_eq_true, Bool.or_eq_false_iff, Bool.true_eq, Bool.false_eq, reduceCtorEq] at hb6
            refine awp_exit ?_
            change Awp _ _ _ _ _ _ _
            refine awp_seq ?_
            -- region 14  roundings.go:91
            refine awp_rseq [8] (by rfl) fun K hK => ?_
            simp (decide := true) only [aOps_nil, vOps_nil, fOps_nil, kOps_nil, ev, absV, absS, putD, Slots.put, Slots.get, Slots.keep, if_true, if_false, List.contains_cons, List.contains_nil, true_and, and_true, ↓ap_fieldAddr, pop_fieldAddr, fa32_0, ↓ap_loadL, apL_mk, pLoad_one ag4, ↓ap_unOp, pop_unOp, pU_not, ↓ap_assign, pop_assign, rd_ne', ne_eq, not_false_eq_true, ne_0q1_0q0, ne_0q1_0q0.symm, rd_any, AVal.cells, setAt, List.set_cons_zero, List.set_cons_succ, cellsAt, List.getD_cons_zero, List.getD_cons_succ, Nat.zero_add, Nat.reduceAdd, lv_bool, lv_int, lv_str, lv_nilPtr, lv_ptr, lv_nilSlice, lv_slice, lv_nilFunc, lv_func, lv_nilIface, lv_iface, lv_nilMap, lv_agg, lv_tuple, allLive, Bool.and_true, decA]
            try simp (disch := omega) only [wrap_i64, wrap_u8]
            repeat (with_reducible refine And.intro ?_ ?_; · first | trivial | omega | (intro hg; simp only [Bool.and_eq_true, Bool.or_eq_true, Bool.not_eq_true', Bool.and_eq_false_iff, Bool.or_eq_false_iff, Bool.not_eq_false', decide_eq_true_eq, decide_eq_false_iff_not, eqNil] at hg; omega) )
            apply hK; clear hK K
            refine awp_ret ?_
            try simp only [thenA_ret, inBlockA_ret]
            refine retA_ret h (by repeat (first | exact Sub.refl _ | assumption | refine Sub.trans_set ?_ (by assumption))) (resPre_tmp (resPre_nil)) ?_
            simp (decide := true) only [aOps_nil, vOps_nil, fOps_nil, kOps_nil, ev, absV, absS, putD, Slots.put, Slots.get, Slots.keep, if_true, if_false, List.contains_cons, List.contains_nil, true_and, and_true, resOf_one, rd_ne', ne_eq, not_false_eq_true, ne_0q1_0q0, ne_0q1_0q0.symm, rd_any, AVal.cells, setAt, List.set_cons_zero, List.set_cons_succ, cellsAt, List.getD_cons_zero, List.getD_cons_succ, Nat.zero_add, Nat.reduceAdd, lv_bool, lv_int, lv_str, lv_nilPtr, lv_ptr, lv_nilSlice, lv_slice, lv_nilFunc, lv_func, lv_nilIface, lv_iface, lv_nilMap, lv_agg, lv_tuple, allLive, Bool.and_true, decA]
            refine congrArg AVal.bool ?_; unfold awayE; simp only [*, if_true, if_false, Int.reduceEq, reduceCtorEq]
          · try simp only [decide_eq_true_eq, decide_eq_false_iff_not, Bool.not_eq_true', Bool.not_eq_false', Bool.and_eq_true, Bool.and_eq_false_iff, Bool.or_eq_true, Bool.or_eq_false_iff, Bool.true_eq, Bool.false_eq, reduceCtorEq] at hb6
            refine awp_skip ?_
            change Awp _ _ _ _ _ _ _
            -- region 8  roundings.go:92
            refine awp_rseq [4, 24] (by rfl) fun K hK => ?_
            simp (decide := true) only [aOps_nil, vOps_nil, fOps_nil, kOps_nil, ev, absV, absS, putD, Slots.put, Slots.get, Slots.keep, if_true, if_false, List.contains_cons, List.contains_nil, true_and, and_true, ↓ap_binOp, pop_binOp, isNilC_int, cond_false, pBinX_int, pI_eql, ↓ap_assign, pop_assign, rd_ne', ne_eq, not_false_eq_true, ne_0q1_0q0, ne_0q1_0q0.symm, rd_any, AVal.cells, setAt, List.set_cons_zero, List.set_cons_succ, cellsAt, List.getD_cons_zero, List.getD_cons_succ, Nat.zero_add, Nat.reduceAdd, lv_bool, lv_int, lv_str, lv_nilPtr, lv_ptr, lv_nilSlice, lv_slice, lv_nilFunc, lv_func, lv_nilIface, lv_iface, lv_nilMap, lv_agg, lv_tuple, allLive, Bool.and_true, decA]
            repeat (with_reducible refine And.intro ?_ ?_; · first | trivial | omega | (intro hg; simp only [Bool.and_eq_true, Bool.or_eq_true, Bool.not_eq_true', Bool.and_eq_false_iff, Bool.or_eq_false_iff, Bool.not_eq_false', decide_eq_true_eq, decide_eq_false_iff_not, eqNil] at hg; omega) )
            apply hK; clear hK K
            refine awp_cond (b := _) rfl (fun hb7 => ?_) (fun hb7 => ?_)
            · try simp only [decide_eq_true_eq, decide_eq_false_iff_not, Bool.not_eq_true', Bool.not_eq_false', Bool.and_eq_true, Bool.and_eq_false_iff, Bool.or_eq_true, Bool.or_eq_false_iff, Bool.true_eq, Bool.false_eq, reduceCtorEq] at hb7
              refine awp_exit ?_
              change Awp _ _ _ _ _ _ _
              refine awp_seq ?_
              -- region 15  roundings.go:93
              refine awp_rseq [8] (by rfl) fun K hK => ?_
              simp (decide := true) only [aOps_nil, vOps_nil, fOps_nil, kOps_nil, ev, absV, absS, putD, Slots.put, Slots.get, Slots.keep, if_true, if_false, List.contains_cons, List.contains_nil, true_and, and_true, ↓ap_fieldAddr, pop_fieldAddr, fa32_0, ↓ap_loadL, apL_mk, pLoad_one ag4, ↓ap_assign, pop_assign, rd_ne', ne_eq, not_false_eq_true, ne_0q1_0q0, ne_0q1_0q0.symm, rd_any, AVal.cells, setAt, List.set_cons_zero, List.set_cons_succ, cellsAt, List.getD_cons_zero, List.getD_cons_succ, Nat.zero_add, Nat.reduceAdd, lv_bool, lv_int, lv_str, lv_nilPtr, lv_ptr, lv_nilSlice, lv_slice, lv_nilFunc, lv_func, lv_nilIface, lv_iface, lv_nilMap, lv_agg, lv_tuple, allLive, Bool.and_true, decA]
              repeat (with_reducible refine And.intro ?_ ?_; · first | trivial | omega | (intro hg; simp only [Bool.and_eq_true, Bool.or_eq_true, Bool.not_eq_true', Bool.and_eq_false_iff, Bool.or_eq_false_iff, Bool.not_eq_false', decide_eq_true_eq, decide_eq_false_iff_not, eqNil] at hg; omega) )
              apply hK; clear hK K
              refine awp_ret ?_
              try simp only [thenA_ret, inBlockA_ret]
              refine retA_ret h (by repeat (first | exact Sub.refl _ | assumption | refine Sub.trans_set ?_ (by assumption))) (resPre_tmp (resPre_nil)) ?_
              simp (decide := true) only [aOps_nil, vOps_nil, fOps_nil, kOps_nil, ev, absV, absS, putD, Slots.put, Slots.get, Slots.keep, if_true, if_false, List.contains_cons, List.contains_nil, true_and, and_true, resOf_one, rd_ne', ne_eq, not_false_eq_true, ne_0q1_0q0, ne_0q1_0q0.symm, rd_any, AVal.cells, setAt, List.set_cons_zero, List.set_cons_succ, cellsAt, List.getD_cons_zero, List.getD_cons_succ, Nat.zero_add, Nat.reduceAdd, lv_bool, lv_int, lv_str, lv_nilPtr, lv_ptr, lv_nilSlice, lv_slice, lv_nilFunc, lv_func, lv_nilIface, lv_iface, lv_nilMap, lv_agg, lv_tuple, allLive, Bool.and_true, decA]
              refine congrArg AVal.bool ?_; unfold awayE; simp only [*, if_true, if_false, Int.reduceEq, reduceCtorEq]
            · try simp only [decide_eq_true_eq, decide_eq_false_iff_not, Bool.not_eq_true', Bool.not_eq_false', Bool.and_eq_true, Bool.and_eq_false_iff, Bool.or_eq_true, Bool.or_eq_false_iff, Bool.true_eq, Bool.false_eq, reduceCtorEq] at hb7
              refine awp_skip ?_
              change Awp _ _ _ _ _ _ _
              refine awp_exit ?_
              change Awp _ _ _ _ _ _ _
              -- region 16  roundings.go:95
              refine awp_rseq [8] (by rfl) fun K hK => ?_
              simp (decide := true) only [aOps_nil, vOps_nil, fOps_nil, kOps_nil, ev, absV, absS, putD, Slots.put, Slots.get, Slots.keep, if_true, if_false, List.contains_cons, List.contains_nil, true_and, and_true, ↓ap_assign, pop_assign, rd_ne', ne_eq, not_false_eq_true, ne_0q1_0q0, ne_0q1_0q0.symm, rd_any, AVal.cells, setAt, List.set_cons_zero, List.set_cons_succ, cellsAt, List.getD_cons_zero, List.getD_cons_succ, Nat.zero_add, Nat.reduceAdd, lv_bool, lv_int, lv_str, lv_nilPtr, lv_ptr, lv_nilSlice, lv_slice, lv_nilFunc, lv_func, lv_nilIface, lv_iface, lv_nilMap, lv_agg, lv_tuple, allLive, Bool.and_true, decA]
              repeat (with_reducible refine And.intro ?_ ?_; · first | trivial | omega | (intro hg; simp only [Bool.and_eq_true, Bool.or_eq_true, Bool.not_eq_true', Bool.and_eq_false_iff, Bool.or_eq_false_iff, Bool.not_eq_false', decide_eq_true_eq, decide_eq_false_iff_not, eqNil] at hg; omega) )
              apply hK; clear hK K
              refine awp_ret ?_
              try simp only [thenA_ret, inBlockA_ret]
              refine retA_ret h (by repeat (first | exact Sub.refl _ | assumption | refine Sub.trans_set ?_ (by assumption))) (resPre_tmp (resPre_nil)) ?_
              simp (decide := true) only [aOps_nil, vOps_nil, fOps_nil, kOps_nil, ev, absV, absS, putD, Slots.put, Slots.get, Slots.keep, if_true, if_false, List.contains_cons, List.contains_nil, true_and, and_true, resOf_one, rd_ne', ne_eq, not_false_eq_true, ne_0q1_0q0, ne_0q1_0q0.symm, rd_any, AVal.cells, setAt, List.set_cons_zero, List.set_cons_succ, cellsAt, List.getD_cons_zero, List.getD_cons_succ, Nat.zero_add, Nat.reduceAdd, lv_bool, lv_int, lv_str, lv_nilPtr, lv_ptr, lv_nilSlice, lv_slice, lv_nilFunc, lv_func, lv_nilIface, lv_iface, lv_nilMap, lv_agg, lv_tuple, allLive, Bool.and_true, decA]
              refine congrArg AVal.bool ?_; unfold awayE; simp only [*, if_true, if_false, Int.reduceEq, reduceCtorEq]

theorem resE_small (c : D) (h0 : 0 ≤ c.scale) : Small (resE c).1 := by
  unfold resE
  split
  · exact ⟨by decide, by decide, by decide⟩
  · rename_i hl
    unfold long at hl
    refine ⟨?_, h0, ?_⟩ <;> simp only <;> omega
theorem canon_scale (neg : Bool) (n k : Nat) : 0 ≤ (canon neg n k).scale := by
  unfold canon
  split
  · decide
  · simp only; omega
theorem canon_all (neg : Bool) (n k : Nat) : (canon neg n k).dig.all dg = true := by
  unfold canon
  split
  · decide
  · exact decDigits_all _
theorem resE_all (c : D) (h : c.dig.all dg = true) : (resE c).1.dig.all dg = true := by
  unfold resE
  split
  · rfl
  · exact h
theorem normE_small (neg : Bool) (n : Nat) (s : Int) : Small (normE neg n s).1 ∧ (normE neg n s).1.dig.all dg = true :=
  ⟨resE_small _ (canon_scale _ _ _), resE_all _ (canon_all _ _ _)⟩

def roundE (d : D) (s m : Int) : D × Int :=
  if chkR d 1 s ≠ 0 ∨ 7 < m then (noD, 1)
  else if (cutE d s).2.2 ≠ 0 ∨ (cutE d s).2.1 = true then ((cutE d s).1, (cutE d s).2.2)
  else if m = 7 then (noD, 14)
  else if awayE d (cutE d s).1 s m = false then ((cutE d s).1, 0)
  else if (newE d.neg [49] s).2 ≠ 0 then (noD, (newE d.neg [49] s).2)
  else addE (cutE d s).1 (newE d.neg [49] s).1

theorem cutE_small {d : D} (hd : checkE d = 0) (s : Int) : Small (cutE d s).1 ∧ (cutE d s).1.dig.all dg = true := by
  obtain ⟨sd, dd, _, _⟩ := Small_of_check hd
  unfold cutE
  rw [if_pos hd]
  split
  · exact ⟨sd, dd⟩
  · exact normE_small _ _ _

theorem newE_len (neg : Bool) (t : List UInt8) (s : Int) : (newE neg t s).1.dig.length ≤ 62 := by
  unfold newE
  split
  · exact (normE_small _ _ _).1.l
  · decide

theorem c_Round (w₀ : World) (h : AHeap) (d : D) (s m : Int) (hl : d.dig.length ≤ 9223372036854775807) (h0 : -9223372036854775808 ≤ s) (h1 : s ≤ 9223372036854775807) (m0 : 0 ≤ m) :
    ACall Tryd.prog w₀ 9 [decA d, .int .i64 s, .int .u8 m] h (fun v h' => v = .tuple [decA (roundE d s m).1, .int .i64 (roundE d s m).2] ∧ h' = h) := by
  refine acall_intro (n := 64) (rs := [.cell 6 32, .tmp 7]) Tryd.func9 rfl rfl rfl rfl (Nat.le_of_ble_eq_true rfl) ?_
  simp only [initSlots]
  -- region 0  roundings.go:99
  refine awp_rseq [1, 2, 3, 6] (by rfl) fun K hK => ?_
  refine aOps_box (by rfl) (by rfl) (by rfl) fun k0q0 hk0q0 => ?_
  try have hf_0q0 : h k0q0 = none := by first | assumption | (simp only [AHeap.set_none] at hk0q0; simp only [hk0q0])
  skip
  refine aOps_alloc ze32 (cs := [.bool false, .str [], .int .i64 0]) (by rfl) fun k0q1 hk0q1 => ?_
  have ne_0q1_0q0 : k0q1 ≠ k0q0 := by simp only [AHeap.set_none] at hk0q1; simp only [hk0q1, ne_eq, not_false_eq_true]
  try have hf_0q1 : h k0q1 = none := by first | assumption | (simp only [AHeap.set_none] at hk0q1; simp only [hk0q1])
  simp (decide := true) only [aOps_nil, vOps_nil, fOps_nil, kOps_nil, ev, absV, absS, putD, Slots.put, Slots.get, Slots.keep, if_true, if_false, List.contains_cons, List.contains_nil, true_and, and_true, ↓ap_assign, pop_assign, rd_ne', ne_eq, not_false_eq_true, ne_0q1_0q0, ne_0q1_0q0.symm, rd_any, AVal.cells, setAt, List.set_cons_zero, List.set_cons_succ, cellsAt, List.getD_cons_zero, List.getD_cons_succ, Nat.zero_add, Nat.reduceAdd, lv_bool, lv_int, lv_str, lv_nilPtr, lv_ptr, lv_nilSlice, lv_slice, lv_nilFunc, lv_func, lv_nilIface, lv_iface, lv_nilMap, lv_agg, lv_tuple, allLive, Bool.and_true, decA]
  repeat (with_reducible refine And.intro ?_ ?_; · first | trivial | omega | (intro hg; simp only [Bool.and_eq_true, Bool.or_eq_true, Bool.not_eq_true', Bool.and_eq_false_iff, Bool.or_eq_false_iff, Bool.not_eq_false', decide_eq_true_eq, decide_eq_false_iff_not, eqNil] at hg; omega) )
  apply hK; clear hK K
  refine awp_seq ?_
  -- region 1  roundings.go:100
  refine awp_rseq [1, 2, 3, 6, 19] (by rfl) fun K hK => ?_
  simp (decide := true) only [aOps_nil, vOps_nil, fOps_nil, kOps_nil, ev, absV, absS, putD, Slots.put, Slots.get, Slots.keep, if_true, if_false, List.contains_cons, List.contains_nil, true_and, and_true, ↓ap_loadL, apL_mk, pLoad_agg ag32 sz32, ↓ap_move, pop_move, rd_ne', ne_eq, not_false_eq_true, ne_0q1_0q0, ne_0q1_0q0.symm, rd_any, AVal.cells, setAt, List.set_cons_zero, List.set_cons_succ, cellsAt, List.getD_cons_zero, List.getD_cons_succ, Nat.zero_add, Nat.reduceAdd, lv_bool, lv_int, lv_str, lv_nilPtr, lv_ptr, lv_nilSlice, lv_slice, lv_nilFunc, lv_func, lv_nilIface, lv_iface, lv_nilMap, lv_agg, lv_tuple, allLive, Bool.and_true, decA]
  repeat (with_reducible refine And.intro ?_ ?_; · first | trivial | omega | (intro hg; simp only [Bool.and_eq_true, Bool.or_eq_true, Bool.not_eq_true', Bool.and_eq_false_iff, Bool.or_eq_false_iff, Bool.not_eq_false', decide_eq_true_eq, decide_eq_false_iff_not, eqNil] at hg; omega) )
  refine aOps_callV (V := .int .i64 (chkR d 1 s)) (by rfl) (by rfl) (c_chkR w₀ _ d 1 s hl) ?_
  simp (decide := true) only [aOps_nil, vOps_nil, fOps_nil, kOps_nil, ev, absV, absS, putD, Slots.put, Slots.get, Slots.keep, if_true, if_false, List.contains_cons, List.contains_nil, true_and, and_true, ↓ap_binOp, pop_binOp, isNilC_int, cond_false, pBinX_int, pI_neq, ↓ap_move, pop_move, ↓ag_move, agP, agQ_some, gv, nthDst, gKnown_bool, gKnown_cond, guardB_cond, guardB_bool_true, guardB_bool_false, cv_cv, implies_true, Bool.not_not, decide_true, decide_false, Bool.not_false, Bool.not_true, condV_true, condV_false, forall_const, false_implies, pickV_true, pickV_false, Bool.and_true, Bool.and_false, Bool.true_and, Bool.false_and, Bool.or_true, Bool.or_false, Bool.true_or, Bool.false_or, ↓ag_binOp, cv_binl, cv_binr, cp_binl, cp_binr, pI_gtr, ↓ap_pick, pop_pick, pPick_bool, pickV_cond_l, pickV_cond_r, pickV_cond_rn, cp_nest1, cp_nest2, cp_nest3, cp_nest4, pickV_and, pickV_or, rd_ne', ne_eq, not_false_eq_true, ne_0q1_0q0, ne_0q1_0q0.symm, rd_any, AVal.cells, setAt, List.set_cons_zero, List.set_cons_succ, cellsAt, List.getD_cons_zero, List.getD_cons_succ, Nat.zero_add, Nat.reduceAdd, lv_bool, lv_int, lv_str, lv_nilPtr, lv_ptr, lv_nilSlice, lv_slice, lv_nilFunc, lv_func, lv_nilIface, lv_iface, lv_nilMap, lv_agg, lv_tuple, allLive, Bool.and_true, decA]
  repeat (with_reducible refine And.intro ?_ ?_; · first | trivial | omega | (intro hg; simp only [Bool.and_eq_true, Bool.or_eq_true, Bool.not_eq_true', Bool.and_eq_false_iff, Bool.or_eq_false_iff, Bool.not_eq_false', decide_eq_true_eq, decide_eq_false_iff_not, eqNil] at hg; omega) )
  apply hK; clear hK K
  refine awp_cond (b := _) rfl (fun hb1 => ?_) (fun hb1 => ?_)
  · try simp only [decide_eq_true_eq, decide_eq_false_iff_not, Bool.not_eq_true', Bool.not_eq_false', Bool.and_eq_true, Bool.and_eq_false_iff, Bool.or_eq_true, Bool.or_eq_false_iff, Bool.true_eq, Bool.false_eq, reduceCtorEq] at hb1
    -- region 2  roundings.go:101
    refine awp_rseq [6, 7] (by rfl) fun K hK => ?_
    simp (decide := true) only [aOps_nil, vOps_nil, fOps_nil, kOps_nil, ev, absV, absS, putD, Slots.put, Slots.get, Slots.keep, if_true, if_false, List.contains_cons, List.contains_nil, true_and, and_true, ↓ap_build, pop_build, ↓pop_buildL, bld32_, evP, List.map_cons, List.map_nil, Sc_slice, Sc_nilSlice, Sc_nilPtr, Sc_ptr, Sc_nilFunc, Sc_func, Sc_nilMap, rd_ne', ne_eq, not_false_eq_true, ne_0q1_0q0, ne_0q1_0q0.symm, rd_any, AVal.cells, setAt, List.set_cons_zero, List.set_cons_succ, cellsAt, List.getD_cons_zero, List.getD_cons_succ, Nat.zero_add, Nat.reduceAdd, lv_bool, lv_int, lv_str, lv_nilPtr, lv_ptr, lv_nilSlice, lv_slice, lv_nilFunc, lv_func, lv_nilIface, lv_iface, lv_nilMap, lv_agg, lv_tuple, allLive, Bool.and_true, decA]
    repeat (with_reducible refine And.intro ?_ ?_; · first | trivial | omega | (intro hg; simp only [Bool.and_eq_true, Bool.or_eq_true, Bool.not_eq_true', Bool.and_eq_false_iff, Bool.or_eq_false_iff, Bool.not_eq_false', decide_eq_true_eq, decide_eq_false_iff_not, eqNil] at hg; omega) )
    refine aOps_store (by rfl) (by rfl) (by repeat (first | exact AHeap.set_same _ _ _ | assumption | refine (AHeap.set_ne _ _ (by first | assumption | exact Ne.symm (by assumption))).trans ?_)) sz32 (by rfl) (by rfl) (by first | exact Nat.le_refl _ | decide | (simp; done) | (simp; omega)) (Nat.zero_le _) (by rfl) ?_
    simp only [AHeap.set_set, setAt, AVal.cells, List.set_cons_zero, List.set_cons_succ, Nat.zero_add, Nat.reduceAdd]
    simp (decide := true) only [aOps_nil, vOps_nil, fOps_nil, kOps_nil, ev, absV, absS, putD, Slots.put, Slots.get, Slots.keep, if_true, if_false, List.contains_cons, List.contains_nil, true_and, and_true, ↓ap_assign, pop_assign, rd_ne', ne_eq, not_false_eq_true, ne_0q1_0q0, ne_0q1_0q0.symm, rd_any, AVal.cells, setAt, List.set_cons_zero, List.set_cons_succ, cellsAt, List.getD_cons_zero, List.getD_cons_succ, Nat.zero_add, Nat.reduceAdd, lv_bool, lv_int, lv_str, lv_nilPtr, lv_ptr, lv_nilSlice, lv_slice, lv_nilFunc, lv_func, lv_nilIface, lv_iface, lv_nilMap, lv_agg, lv_tuple, allLive, Bool.and_true, decA]
    repeat (with_reducible refine And.intro ?_ ?_; · first | trivial | omega | (intro hg; simp only [Bool.and_eq_true, Bool.or_eq_true, Bool.not_eq_true', Bool.and_eq_false_iff, Bool.or_eq_false_iff, Bool.not_eq_false', decide_eq_true_eq, decide_eq_false_iff_not, eqNil] at hg; omega) )
    apply hK; clear hK K
    refine awp_ret ?_
    try simp only [thenA_ret, inBlockA_ret]
    refine retA_ret h (by repeat (first | exact Sub.refl _ | assumption | refine Sub.trans_set ?_ (by assumption))) (?_) ?_
    · simp (decide := true) only [resPre, resV_tmp, resV_cell, aOps_nil, ev, Slots.get, if_true, if_false, and_true, true_and, AHeap.set_same, resV_tmp, resV_cell, pLoad_agg ag32 sz32, rd_set, cellsAt, List.getD_cons_zero, List.getD_cons_succ, Nat.zero_add, Nat.reduceAdd, setAt, List.set_cons_zero, List.set_cons_succ, AVal.cells, lv_bool, lv_int, lv_str, lv_nilPtr, lv_ptr, lv_nilSlice, lv_slice, lv_nilFunc, lv_func, lv_nilIface, lv_iface, lv_nilMap, lv_agg, lv_tuple, allLive, Bool.and_true, Bool.true_and, rd_any, rd_ne', ne_eq, not_false_eq_true, ne_0q1_0q0, ne_0q1_0q0.symm, rd_any, AVal.cells, setAt, List.set_cons_zero, List.set_cons_succ, cellsAt, List.getD_cons_zero, List.getD_cons_succ, Nat.zero_add, Nat.reduceAdd, lv_bool, lv_int, lv_str, lv_nilPtr, lv_ptr, lv_nilSlice, lv_slice, lv_nilFunc, lv_func, lv_nilIface, lv_iface, lv_nilMap, lv_agg, lv_tuple, allLive, Bool.and_true, decA]
    
    simp (decide := true) only [aOps_nil, vOps_nil, fOps_nil, kOps_nil, ev, absV, absS, putD, Slots.put, Slots.get, Slots.keep, if_true, if_false, List.contains_cons, List.contains_nil, true_and, and_true, resOfG_two, resV_tmp, resV_cell, pLoad_agg ag32 sz32, rd_set, cellsAt, List.getD_cons_zero, List.getD_cons_succ, Nat.zero_add, Nat.reduceAdd, setAt, List.set_cons_zero, List.set_cons_succ, AVal.cells, lv_bool, lv_int, lv_str, lv_nilPtr, lv_ptr, lv_nilSlice, lv_slice, lv_nilFunc, lv_func, lv_nilIface, lv_iface, lv_nilMap, lv_agg, lv_tuple, allLive, Bool.and_true, Bool.true_and, rd_any, rd_ne', ne_eq, not_false_eq_true, ne_0q1_0q0, ne_0q1_0q0.symm, rd_any, AVal.cells, setAt, List.set_cons_zero, List.set_cons_succ, cellsAt, List.getD_cons_zero, List.getD_cons_succ, Nat.zero_add, Nat.reduceAdd, lv_bool, lv_int, lv_str, lv_nilPtr, lv_ptr, lv_nilSlice, lv_slice, lv_nilFunc, lv_func, lv_nilIface, lv_iface, lv_nilMap, lv_agg, lv_tuple, allLive, Bool.and_true, decA]
    rw [roundE, if_pos hb1]
    rfl
  · try simp only [decide_eq_true_eq, decide_eq_false_iff_not, Bool.not_eq_true', Bool.not_eq_false', Bool.and_eq_true, Bool.and_eq_false_iff, Bool.or_eq_true, Bool.or_eq_false_iff, Bool.true_eq, Bool.false_eq, reduceCtorEq] at hb1
    have hck : chkR d 1 s = 0 := by simpa using hb1.1
    obtain ⟨hv, _, _, hs0, hs1⟩ := chkR_0 hck
    obtain ⟨sd, dd, _, _⟩ := Small_of_check hv
    obtain ⟨sc, dc⟩ := cutE_small hv s
    have hscl := sc.l
    have hm : m ≤ 7 := by simpa using hb1.2
    refine awp_skip ?_
    change Awp _ _ _ _ _ _ _
    -- region 3  roundings.go:103
    refine awp_rseq [1, 2, 3, 6, 8, 9, 10] (by rfl) fun K hK => ?_
    simp (decide := true) only [aOps_nil, vOps_nil, fOps_nil, kOps_nil, ev, absV, absS, putD, Slots.put, Slots.get, Slots.keep, if_true, if_false, List.contains_cons, List.contains_nil, true_and, and_true, ↓ap_loadL, apL_mk, pLoad_agg ag32 sz32, ↓ap_move, pop_move, rd_ne', ne_eq, not_false_eq_true, ne_0q1_0q0, ne_0q1_0q0.symm, rd_any, AVal.cells, setAt, List.set_cons_zero, List.set_cons_succ, cellsAt, List.getD_cons_zero, List.getD_cons_succ, Nat.zero_add, Nat.reduceAdd, lv_bool, lv_int, lv_str, lv_nilPtr, lv_ptr, lv_nilSlice, lv_slice, lv_nilFunc, lv_func, lv_nilIface, lv_iface, lv_nilMap, lv_agg, lv_tuple, allLive, Bool.and_true, decA]
    repeat (with_reducible refine And.intro ?_ ?_; · first | trivial | omega | (intro hg; simp only [Bool.and_eq_true, Bool.or_eq_true, Bool.not_eq_true', Bool.and_eq_false_iff, Bool.or_eq_false_iff, Bool.not_eq_false', decide_eq_true_eq, decide_eq_false_iff_not, eqNil] at hg; omega) )
    refine aOps_callV (V := .tuple [decA (cutE d s).1, .bool (cutE d s).2.1, .int .i64 (cutE d s).2.2]) (by rfl) (by rfl) (c_Cut w₀ _ d s hl h0 h1) ?_
    simp (decide := true) only [aOps_nil, vOps_nil, fOps_nil, kOps_nil, ev, absV, absS, putD, Slots.put, Slots.get, Slots.keep, if_true, if_false, List.contains_cons, List.contains_nil, true_and, and_true, ↓ap_move, pop_move, ↓ap_extract, pop_extract, pExt_tuple, List.length_cons, List.length_nil, List.getD_cons_zero, List.getD_cons_succ, rd_ne', ne_eq, not_false_eq_true, ne_0q1_0q0, ne_0q1_0q0.symm, rd_any, AVal.cells, setAt, List.set_cons_zero, List.set_cons_succ, cellsAt, List.getD_cons_zero, List.getD_cons_succ, Nat.zero_add, Nat.reduceAdd, lv_bool, lv_int, lv_str, lv_nilPtr, lv_ptr, lv_nilSlice, lv_slice, lv_nilFunc, lv_func, lv_nilIface, lv_iface, lv_nilMap, lv_agg, lv_tuple, allLive, Bool.and_true, decA]
    repeat (with_reducible refine And.intro ?_ ?_; · first | trivial | omega | (intro hg; simp only [Bool.and_eq_true, Bool.or_eq_true, Bool.not_eq_true', Bool.and_eq_false_iff, Bool.or_eq_false_iff, Bool.not_eq_false', decide_eq_true_eq, decide_eq_false_iff_not, eqNil] at hg; omega) )
    refine aOps_alloc ze32 (cs := [.bool false, .str [], .int .i64 0]) (by rfl) fun k3q7 hk3q7 => ?_
    have ne_3q7_0q0 : k3q7 ≠ k0q0 := by simp only [AHeap.set_none] at hk3q7; simp only [hk3q7, ne_eq, not_false_eq_true]
    have ne_3q7_0q1 : k3q7 ≠ k0q1 := by simp only [AHeap.set_none] at hk3q7; simp only [hk3q7, ne_eq, not_false_eq_true]
    try have hf_3q7 : h k3q7 = none := by first | assumption | (simp only [AHeap.set_none] at hk3q7; simp only [hk3q7])
    refine aOps_store (by rfl) (by rfl) (by repeat (first | exact AHeap.set_same _ _ _ | assumption | refine (AHeap.set_ne _ _ (by first | assumption | exact Ne.symm (by assumption))).trans ?_)) sz32 (by rfl) (by rfl) (by first | exact Nat.le_refl _ | decide | (simp; done) | (simp; omega)) (Nat.zero_le _) (by rfl) ?_
    simp only [AHeap.set_set, setAt, AVal.cells, List.set_cons_zero, List.set_cons_succ, Nat.zero_add, Nat.reduceAdd]
    simp (decide := true) only [aOps_nil, vOps_nil, fOps_nil, kOps_nil, ev, absV, absS, putD, Slots.put, Slots.get, Slots.keep, if_true, if_false, List.contains_cons, List.contains_nil, true_and, and_true, ↓ap_assign, pop_assign, rd_ne', ne_eq, not_false_eq_true, ne_0q1_0q0, ne_0q1_0q0.symm, ne_3q7_0q0, ne_3q7_0q0.symm, ne_3q7_0q1, ne_3q7_0q1.symm, rd_any, AVal.cells, setAt, List.set_cons_zero, List.set_cons_succ, cellsAt, List.getD_cons_zero, List.getD_cons_succ, Nat.zero_add, Nat.reduceAdd, lv_bool, lv_int, lv_str, lv_nilPtr, lv_ptr, lv_nilSlice, lv_slice, lv_nilFunc, lv_func, lv_nilIface, lv_iface, lv_nilMap, lv_agg, lv_tuple, allLive, Bool.and_true, decA]
    repeat (with_reducible refine And.intro ?_ ?_; · first | trivial | omega | (intro hg; simp only [Bool.and_eq_true, Bool.or_eq_true, Bool.not_eq_true', Bool.and_eq_false_iff, Bool.or_eq_false_iff, Bool.not_eq_false', decide_eq_true_eq, decide_eq_false_iff_not, eqNil] at hg; omega) )
    apply hK; clear hK K
    refine awp_seq ?_
    refine awp_block ?_
    -- region 4  roundings.go:105
    refine awp_rseq [1, 2, 3, 6, 8, 10, 28] (by rfl) fun K hK => ?_
    simp (decide := true) only [aOps_nil, vOps_nil, fOps_nil, kOps_nil, ev, absV, absS, putD, Slots.put, Slots.get, Slots.keep, if_true, if_false, List.contains_cons, List.contains_nil, true_and, and_true, ↓ap_move, pop_move, ↓ap_binOp, pop_binOp, isNilC_int, cond_false, pBinX_int, pI_neq, ↓ag_move, agP, agQ_some, gv, nthDst, gKnown_bool, gKnown_cond, guardB_cond, guardB_bool_true, guardB_bool_false, cv_cv, implies_true, Bool.not_not, decide_true, decide_false, Bool.not_false, Bool.not_true, condV_true, condV_false, forall_const, false_implies, pickV_true, pickV_false, Bool.and_true, Bool.and_false, Bool.true_and, Bool.false_and, Bool.or_true, Bool.or_false, Bool.true_or, Bool.false_or, ↓ap_pick, pop_pick, pPick_bool, pickV_cond_l, pickV_cond_r, pickV_cond_rn, cp_nest1, cp_nest2, cp_nest3, cp_nest4, pickV_and, pickV_or, ↓ap_assign, pop_assign, rd_ne', ne_eq, not_false_eq_true, ne_0q1_0q0, ne_0q1_0q0.symm, ne_3q7_0q0, ne_3q7_0q0.symm, ne_3q7_0q1, ne_3q7_0q1.symm, rd_any, AVal.cells, setAt, List.set_cons_zero, List.set_cons_succ, cellsAt, List.getD_cons_zero, List.getD_cons_succ, Nat.zero_add, Nat.reduceAdd, lv_bool, lv_int, lv_str, lv_nilPtr, lv_ptr, lv_nilSlice, lv_slice, lv_nilFunc, lv_func, lv_nilIface, lv_iface, lv_nilMap, lv_agg, lv_tuple, allLive, Bool.and_true, decA]
    repeat (with_reducible refine And.intro ?_ ?_; · first | trivial | omega | (intro hg; simp only [Bool.and_eq_true, Bool.or_eq_true, Bool.not_eq_true', Bool.and_eq_false_iff, Bool.or_eq_false_iff, Bool.not_eq_false', decide_eq_true_eq, decide_eq_false_iff_not, eqNil] at hg; omega) )
    apply hK; clear hK K
    refine awp_cond (b := _) rfl (fun hb2 => ?_) (fun hb2 => ?_)
    · try simp only [decide_eq_true_eq, decide_eq_false_iff_not, Bool.not_eq_true', Bool.not_eq_false', Bool.and_eq_true, Bool.and_eq_false_iff, Bool.or_eq_true, Bool.or_eq_false_iff, Bool.true_eq, Bool.false_eq, reduceCtorEq] at hb2
      -- region 5  roundings.go:106
      refine awp_rseq [6, 7] (by rfl) fun K hK => ?_
      simp (decide := true) only [aOps_nil, vOps_nil, fOps_nil, kOps_nil, ev, absV, absS, putD, Slots.put, Slots.get, Slots.keep, if_true, if_false, List.contains_cons, List.contains_nil, true_and, and_true, ↓ap_loadL, apL_mk, pLoad_agg ag32 sz32, ↓ap_move, pop_move, rd_ne', ne_eq, not_false_eq_true, ne_0q1_0q0, ne_0q1_0q0.symm, ne_3q7_0q0, ne_3q7_0q0.symm, ne_3q7_0q1, ne_3q7_0q1.symm, rd_any, AVal.cells, setAt, List.set_cons_zero, List.set_cons_succ, cellsAt, List.getD_cons_zero, List.getD_cons_succ, Nat.zero_add, Nat.reduceAdd, lv_bool, lv_int, lv_str, lv_nilPtr, lv_ptr, lv_nilSlice, lv_slice, lv_nilFunc, lv_func, lv_nilIface, lv_iface, lv_nilMap, lv_agg, lv_tuple, allLive, Bool.and_true, decA]
      repeat (with_reducible refine And.intro ?_ ?_; · first | trivial | omega | (intro hg; simp only [Bool.and_eq_true, Bool.or_eq_true, Bool.not_eq_true', Bool.and_eq_false_iff, Bool.or_eq_false_iff, Bool.not_eq_false', decide_eq_true_eq, decide_eq_false_iff_not, eqNil] at hg; omega) )
      refine aOps_store (by rfl) (by rfl) (by repeat (first | exact AHeap.set_same _ _ _ | assumption | refine (AHeap.set_ne _ _ (by first | assumption | exact Ne.symm (by assumption))).trans ?_)) sz32 (by rfl) (by rfl) (by first | exact Nat.le_refl _ | decide | (simp; done) | (simp; omega)) (Nat.zero_le _) (by rfl) ?_
      simp only [AHeap.set_set, setAt, AVal.cells, List.set_cons_zero, List.set_cons_succ, Nat.zero_add, Nat.reduceAdd]
      simp (decide := true) only [aOps_nil, vOps_nil, fOps_nil, kOps_nil, ev, absV, absS, putD, Slots.put, Slots.get, Slots.keep, if_true, if_false, List.contains_cons, List.contains_nil, true_and, and_true, ↓ap_assign, pop_assign, rd_ne', ne_eq, not_false_eq_true, ne_0q1_0q0, ne_0q1_0q0.symm, ne_3q7_0q0, ne_3q7_0q0.symm, ne_3q7_0q1, ne_3q7_0q1.symm, rd_any, AVal.cells, setAt, List.set_cons_zero, List.set_cons_succ, cellsAt, List.getD_cons_zero, List.getD_cons_succ, Nat.zero_add, Nat.reduceAdd, lv_bool, lv_int, lv_str, lv_nilPtr, lv_ptr, lv_nilSlice, lv_slice, lv_nilFunc, lv_func, lv_nilIface, lv_iface, lv_nilMap, lv_agg, lv_tuple, allLive, Bool.and_true, decA]
      repeat (with_reducible refine And.intro ?_ ?_; · first | trivial | omega | (intro hg; simp only [Bool.and_eq_true, Bool.or_eq_true, Bool.not_eq_true', Bool.and_eq_false_iff, Bool.or_eq_false_iff, Bool.not_eq_false', decide_eq_true_eq, decide_eq_false_iff_not, eqNil] at hg; omega) )
      apply hK; clear hK K
      refine awp_ret ?_
      try simp only [thenA_ret, inBlockA_ret]
      refine retA_ret h (by repeat (first | exact Sub.refl _ | assumption | refine Sub.trans_set ?_ (by assumption))) (?_) ?_
      · simp (decide := true) only [resPre, resV_tmp, resV_cell, aOps_nil, ev, Slots.get, if_true, if_false, and_true, true_and, AHeap.set_same, resV_tmp, resV_cell, pLoad_agg ag32 sz32, rd_set, cellsAt, List.getD_cons_zero, List.getD_cons_succ, Nat.zero_add, Nat.reduceAdd, setAt, List.set_cons_zero, List.set_cons_succ, AVal.cells, lv_bool, lv_int, lv_str, lv_nilPtr, lv_ptr, lv_nilSlice, lv_slice, lv_nilFunc, lv_func, lv_nilIface, lv_iface, lv_nilMap, lv_agg, lv_tuple, allLive, Bool.and_true, Bool.true_and, rd_any, rd_ne', ne_eq, not_false_eq_true, ne_0q1_0q0, ne_0q1_0q0.symm, ne_3q7_0q0, ne_3q7_0q0.symm, ne_3q7_0q1, ne_3q7_0q1.symm, rd_any, AVal.cells, setAt, List.set_cons_zero, List.set_cons_succ, cellsAt, List.getD_cons_zero, List.getD_cons_succ, Nat.zero_add, Nat.reduceAdd, lv_bool, lv_int, lv_str, lv_nilPtr, lv_ptr, lv_nilSlice, lv_slice, lv_nilFunc, lv_func, lv_nilIface, lv_iface, lv_nilMap, lv_agg, lv_tuple, allLive, Bool.and_true, decA]
      
      simp (decide := true) only [aOps_nil, vOps_nil, fOps_nil, kOps_nil, ev, absV, absS, putD, Slots.put, Slots.get, Slots.keep, if_true, if_false, List.contains_cons, List.contains_nil, true_and, and_true, resOfG_two, resV_tmp, resV_cell, pLoad_agg ag32 sz32, rd_set, cellsAt, List.getD_cons_zero, List.getD_cons_succ, Nat.zero_add, Nat.reduceAdd, setAt, List.set_cons_zero, List.set_cons_succ, AVal.cells, lv_bool, lv_int, lv_str, lv_nilPtr, lv_ptr, lv_nilSlice, lv_slice, lv_nilFunc, lv_func, lv_nilIface, lv_iface, lv_nilMap, lv_agg, lv_tuple, allLive, Bool.and_true, Bool.true_and, rd_any, rd_ne', ne_eq, not_false_eq_true, ne_0q1_0q0, ne_0q1_0q0.symm, ne_3q7_0q0, ne_3q7_0q0.symm, ne_3q7_0q1, ne_3q7_0q1.symm, rd_any, AVal.cells, setAt, List.set_cons_zero, List.set_cons_succ, cellsAt, List.getD_cons_zero, List.getD_cons_succ, Nat.zero_add, Nat.reduceAdd, lv_bool, lv_int, lv_str, lv_nilPtr, lv_ptr, lv_nilSlice, lv_slice, lv_nilFunc, lv_func, lv_nilIface, lv_iface, lv_nilMap, lv_agg, lv_tuple, allLive, Bool.and_true, decA]
      rw [roundE, if_neg (by omega), if_pos hb2]
    · try simp only [decide_eq_true_eq, decide_eq_false_iff_not, Bool.not_eq_true', Bool.not_eq_false', Bool.and_eq_true, Bool.and_eq_false_iff, Bool.or_eq_true, Bool.or_eq_false_iff, Bool.true_eq, Bool.false_eq, reduceCtorEq] at hb2
      -- region 6  roundings.go:107
      refine awp_rseq [1, 2, 3, 6, 8, 36] (by rfl) fun K hK => ?_
      simp (decide := true) only [aOps_nil, vOps_nil, fOps_nil, kOps_nil, ev, absV, absS, putD, Slots.put, Slots.get, Slots.keep, if_true, if_false, List.contains_cons, List.contains_nil, true_and, and_true, ↓ap_move, pop_move, ↓ap_binOp, pop_binOp, isNilC_int, cond_false, pBinX_int, pI_eql, ↓ap_assign, pop_assign, rd_ne', ne_eq, not_false_eq_true, ne_0q1_0q0, ne_0q1_0q0.symm, ne_3q7_0q0, ne_3q7_0q0.symm, ne_3q7_0q1, ne_3q7_0q1.symm, rd_any, AVal.cells, setAt, List.set_cons_zero, List.set_cons_succ, cellsAt, List.getD_cons_zero, List.getD_cons_succ, Nat.zero_add, Nat.reduceAdd, lv_bool, lv_int, lv_str, lv_nilPtr, lv_ptr, lv_nilSlice, lv_slice, lv_nilFunc, lv_func, lv_nilIface, lv_iface, lv_nilMap, lv_agg, lv_tuple, allLive, Bool.and_true, decA]
      repeat (with_reducible refine And.intro ?_ ?_; · first | trivial | omega | (intro hg; simp only [Bool.and_eq_true, Bool.or_eq_true, Bool.not_eq_true', Bool.and_eq_false_iff, Bool.or_eq_false_iff, Bool.not_eq_false', decide_eq_true_eq, decide_eq_false_iff_not, eqNil] at hg; omega) )
      apply hK; clear hK K
      refine awp_cond (b := _) rfl (fun hb3 => ?_) (fun hb3 => ?_)
      · try simp only [decide_eq_true_eq, decide_eq_false_iff_not, Bool.not_eq_true', Bool.not_eq_false', Bool.and_eq_true, Bool.and_eq_false_iff, Bool.or_eq_true, Bool.or_eq_false_iff, Bool.true_eq, Bool.false_eq, reduceCtorEq] at hb3
        -- region 7  roundings.go:108
        refine awp_rseq [6, 7] (by rfl) fun K hK => ?_
        simp (decide := true) only [aOps_nil, vOps_nil, fOps_nil, kOps_nil, ev, absV, absS, putD, Slots.put, Slots.get, Slots.keep, if_true, if_false, List.contains_cons, List.contains_nil, true_and, and_true, ↓ap_build, pop_build, ↓pop_buildL, bld32_, evP, List.map_cons, List.map_nil, Sc_slice, Sc_nilSlice, Sc_nilPtr, Sc_ptr, Sc_nilFunc, Sc_func, Sc_nilMap, rd_ne', ne_eq, not_false_eq_true, ne_0q1_0q0, ne_0q1_0q0.symm, ne_3q7_0q0, ne_3q7_0q0.symm, ne_3q7_0q1, ne_3q7_0q1.symm, rd_any, AVal.cells, setAt, List.set_cons_zero, List.set_cons_succ, cellsAt, List.getD_cons_zero, List.getD_cons_succ, Nat.zero_add, Nat.reduceAdd, lv_bool, lv_int, lv_str, lv_nilPtr, lv_ptr, lv_nilSlice, lv_slice, lv_nilFunc, lv_func, lv_nilIface, lv_iface, lv_nilMap, lv_agg, lv_tuple, allLive, Bool.and_true, decA]
        repeat (with_reducible refine And.intro ?_ ?_; · first | trivial | omega | (intro hg; simp only [Bool.and_eq_true, Bool.or_eq_true, Bool.not_eq_true', Bool.and_eq_false_iff, Bool.or_eq_false_iff, Bool.not_eq_false', decide_eq_true_eq, decide_eq_false_iff_not, eqNil] at hg; omega) )
        refine aOps_store (by rfl) (by rfl) (by repeat (first | exact AHeap.set_same _ _ _ | assumption | refine (AHeap.set_ne _ _ (by first | assumption | exact Ne.symm (by assumption))).trans ?_)) sz32 (by rfl) (by rfl) (by first | exact Nat.le_refl _ | decide | (simp; done) | (simp; omega)) (Nat.zero_le _) (by rfl) ?_
        simp only [AHeap.set_set, setAt, AVal.cells, List.set_cons_zero, List.set_cons_succ, Nat.zero_add, Nat.reduceAdd]
        simp (decide := true) only [aOps_nil, vOps_nil, fOps_nil, kOps_nil, ev, absV, absS, putD, Slots.put, Slots.get, Slots.keep, if_true, if_false, List.contains_cons, List.contains_nil, true_and, and_true, ↓ap_assign, pop_assign, rd_ne', ne_eq, not_false_eq_true, ne_0q1_0q0, ne_0q1_0q0.symm, ne_3q7_0q0, ne_3q7_0q0.symm, ne_3q7_0q1, ne_3q7_0q1.symm, rd_any, AVal.cells, setAt, List.set_cons_zero, List.set_cons_succ, cellsAt, List.getD_cons_zero, List.getD_cons_succ, Nat.zero_add, Nat.reduceAdd, lv_bool, lv_int, lv_str, lv_nilPtr, lv_ptr, lv_nilSlice, lv_slice, lv_nilFunc, lv_func, lv_nilIface, lv_iface, lv_nilMap, lv_agg, lv_tuple, allLive, Bool.and_true, decA]
        repeat (with_reducible refine And.intro ?_ ?_; · first | trivial | omega | (intro hg; simp only [Bool.and_eq_true, Bool.or_eq_true, Bool.not_eq_true', Bool.and_eq_false_iff, Bool.or_eq_false_iff, Bool.not_eq_false', decide_eq_true_eq, decide_eq_false_iff_not, eqNil] at hg; omega) )
        apply hK; clear hK K
        refine awp_ret ?_
        try simp only [thenA_ret, inBlockA_ret]
        refine retA_ret h (by repeat (first | exact Sub.refl _ | assumption | refine Sub.trans_set ?_ (by assumption))) (?_) ?_
        · simp (decide := true) only [resPre, resV_tmp, resV_cell, aOps_nil, ev, Slots.get, if_true, if_false, and_true, true_and, AHeap.set_same, resV_tmp, resV_cell, pLoad_agg ag32 sz32, rd_set, cellsAt, List.getD_cons_zero, List.getD_cons_succ, Nat.zero_add, Nat.reduceAdd, setAt, List.set_cons_zero, List.set_cons_succ, AVal.cells, lv_bool, lv_int, lv_str, lv_nilPtr, lv_ptr, lv_nilSlice, lv_slice, lv_nilFunc, lv_func, lv_nilIface, lv_iface, lv_nilMap, lv_agg, lv_tuple, allLive, Bool.and_true, Bool.true_and, rd_any, rd_ne', ne_eq, not_false_eq_true, ne_0q1_0q0, ne_0q1_0q0.symm, ne_3q7_0q0, ne_3q7_0q0.symm, ne_3q7_0q1, ne_3q7_0q1.symm, rd_any, AVal.cells, setAt, List.set_cons_zero, List.set_cons_succ, cellsAt, List.getD_cons_zero, List.getD_cons_succ, Nat.zero_add, Nat.reduceAdd, lv_bool, lv_int, lv_str, lv_nilPtr, lv_ptr, lv_nilSlice, lv_slice, lv_nilFunc, lv_func, lv_nilIface, lv_iface, lv_nilMap, lv_agg, lv_tuple, allLive, Bool.and_true, decA]
        
        simp (decide := true) only [aOps_nil, vOps_nil, fOps_nil, kOps_nil, ev, absV, absS, putD, Slots.put, Slots.get, Slots.keep, if_true, if_false, List.contains_cons, List.contains_nil, true_and, and_true, resOfG_two, resV_tmp, resV_cell, pLoad_agg ag32 sz32, rd_set, cellsAt, List.getD_cons_zero, List.getD_cons_succ, Nat.zero_add, Nat.reduceAdd, setAt, List.set_cons_zero, List.set_cons_succ, AVal.cells, lv_bool, lv_int, lv_str, lv_nilPtr, lv_ptr, lv_nilSlice, lv_slice, lv_nilFunc, lv_func, lv_nilIface, lv_iface, lv_nilMap, lv_agg, lv_tuple, allLive, Bool.and_true, Bool.true_and, rd_any, rd_ne', ne_eq, not_false_eq_true, ne_0q1_0q0, ne_0q1_0q0.symm, ne_3q7_0q0, ne_3q7_0q0.symm, ne_3q7_0q1, ne_3q7_0q1.symm, rd_any, AVal.cells, setAt, List.set_cons_zero, List.set_cons_succ, cellsAt, List.getD_cons_zero, List.getD_cons_succ, Nat.zero_add, Nat.reduceAdd, lv_bool, lv_int, lv_str, lv_nilPtr, lv_ptr, lv_nilSlice, lv_slice, lv_nilFunc, lv_func, lv_nilIface, lv_iface, lv_nilMap, lv_agg, lv_tuple, allLive, Bool.and_true, decA]
        rw [roundE, if_neg (by omega), if_neg (by rintro (e | e); exact e hb2.1; rw [hb2.2] at e; cases e), if_pos hb3]
        rfl
      · try simp only [decide_eq_true_eq, decide_eq_false_iff_not, Bool.not_eq_true', Bool.not_eq_false', Bool.and_eq_true, Bool.and_eq_false_iff, Bool.or_eq_true, Bool.or_eq_false_iff, Bool.true_eq, Bool.false_eq, reduceCtorEq] at hb3
        -- region 8  roundings.go:109
        refine awp_rseq [1, 3, 6, 8, 40] (by rfl) fun K hK => ?_
        simp (decide := true) only [aOps_nil, vOps_nil, fOps_nil, kOps_nil, ev, absV, absS, putD, Slots.put, Slots.get, Slots.keep, if_true, if_false, List.contains_cons, List.contains_nil, true_and, and_true, ↓ap_loadL, apL_mk, pLoad_agg ag32 sz32, ↓ap_move, pop_move, rd_ne', ne_eq, not_false_eq_true, ne_0q1_0q0, ne_0q1_0q0.symm, ne_3q7_0q0, ne_3q7_0q0.symm, ne_3q7_0q1, ne_3q7_0q1.symm, rd_any, AVal.cells, setAt, List.set_cons_zero, List.set_cons_succ, cellsAt, List.getD_cons_zero, List.getD_cons_succ, Nat.zero_add, Nat.reduceAdd, lv_bool, lv_int, lv_str, lv_nilPtr, lv_ptr, lv_nilSlice, lv_slice, lv_nilFunc, lv_func, lv_nilIface, lv_iface, lv_nilMap, lv_agg, lv_tuple, allLive, Bool.and_true, decA]
        repeat (with_reducible refine And.intro ?_ ?_; · first | trivial | omega | (intro hg; simp only [Bool.and_eq_true, Bool.or_eq_true, Bool.not_eq_true', Bool.and_eq_false_iff, Bool.or_eq_false_iff, Bool.not_eq_false', decide_eq_true_eq, decide_eq_false_iff_not, eqNil] at hg; omega) )
        refine aOps_callV (V := .bool (awayE d (cutE d s).1 s m)) (by rfl) (by rfl) (c_away w₀ _ d _ s m sd hs0 hs1 (by
          refine Int.lt_of_not_ge fun e => ?_
          have := hb2.2
          rw [cutE, if_pos hv, if_pos e] at this
          cases this) sc dc) ?_
        simp (decide := true) only [aOps_nil, vOps_nil, fOps_nil, kOps_nil, ev, absV, absS, putD, Slots.put, Slots.get, Slots.keep, if_true, if_false, List.contains_cons, List.contains_nil, true_and, and_true, ↓ap_unOp, pop_unOp, pU_not, ↓ap_assign, pop_assign, rd_ne', ne_eq, not_false_eq_true, ne_0q1_0q0, ne_0q1_0q0.symm, ne_3q7_0q0, ne_3q7_0q0.symm, ne_3q7_0q1, ne_3q7_0q1.symm, rd_any, AVal.cells, setAt, List.set_cons_zero, List.set_cons_succ, cellsAt, List.getD_cons_zero, List.getD_cons_succ, Nat.zero_add, Nat.reduceAdd, lv_bool, lv_int, lv_str, lv_nilPtr, lv_ptr, lv_nilSlice, lv_slice, lv_nilFunc, lv_func, lv_nilIface, lv_iface, lv_nilMap, lv_agg, lv_tuple, allLive, Bool.and_true, decA]
        try simp (disch := omega) only [wrap_i64, wrap_u8]
        repeat (with_reducible refine And.intro ?_ ?_; · first | trivial | omega | (intro hg; simp only [Bool.and_eq_true, Bool.or_eq_true, Bool.not_eq_true', Bool.and_eq_false_iff, Bool.or_eq_false_iff, Bool.not_eq_false', decide_eq_true_eq, decide_eq_false_iff_not, eqNil] at hg; omega) )
        apply hK; clear hK K
        refine awp_cond (b := _) rfl (fun hb4 => ?_) (fun hb4 => ?_)
        · try simp only [decide_eq_true_eq, decide_eq_false_iff_not, Bool.not_eq_true', Bool.not_eq_false', Bool.and_eq_true, Bool.and_eq_false_iff, Bool.or_eq_true, Bool.or_eq_false_iff, Bool.true_eq, Bool.false_eq, reduceCtorEq] at hb4
          -- region 9  roundings.go:110
          refine awp_rseq [6, 7] (by rfl) fun K hK => ?_
          simp (decide := true) only [aOps_nil, vOps_nil, fOps_nil, kOps_nil, ev, absV, absS, putD, Slots.put, Slots.get, Slots.keep, if_true, if_false, List.contains_cons, List.contains_nil, true_and, and_true, ↓ap_loadL, apL_mk, pLoad_agg ag32 sz32, rd_ne', ne_eq, not_false_eq_true, ne_0q1_0q0, ne_0q1_0q0.symm, ne_3q7_0q0, ne_3q7_0q0.symm, ne_3q7_0q1, ne_3q7_0q1.symm, rd_any, AVal.cells, setAt, List.set_cons_zero, List.set_cons_succ, cellsAt, List.getD_cons_zero, List.getD_cons_succ, Nat.zero_add, Nat.reduceAdd, lv_bool, lv_int, lv_str, lv_nilPtr, lv_ptr, lv_nilSlice, lv_slice, lv_nilFunc, lv_func, lv_nilIface, lv_iface, lv_nilMap, lv_agg, lv_tuple, allLive, Bool.and_true, decA]
          repeat (with_reducible refine And.intro ?_ ?_; · first | trivial | omega | (intro hg; simp only [Bool.and_eq_true, Bool.or_eq_true, Bool.not_eq_true', Bool.and_eq_false_iff, Bool.or_eq_false_iff, Bool.not_eq_false', decide_eq_true_eq, decide_eq_false_iff_not, eqNil] at hg; omega) )
          refine aOps_store (by rfl) (by rfl) (by repeat (first | exact AHeap.set_same _ _ _ | assumption | refine (AHeap.set_ne _ _ (by first | assumption | exact Ne.symm (by assumption))).trans ?_)) sz32 (by rfl) (by rfl) (by first | exact Nat.le_refl _ | decide | (simp; done) | (simp; omega)) (Nat.zero_le _) (by rfl) ?_
          simp only [AHeap.set_set, setAt, AVal.cells, List.set_cons_zero, List.set_cons_succ, Nat.zero_add, Nat.reduceAdd]
          simp (decide := true) only [aOps_nil, vOps_nil, fOps_nil, kOps_nil, ev, absV, absS, putD, Slots.put, Slots.get, Slots.keep, if_true, if_false, List.contains_cons, List.contains_nil, true_and, and_true, ↓ap_assign, pop_assign, rd_ne', ne_eq, not_false_eq_true, ne_0q1_0q0, ne_0q1_0q0.symm, ne_3q7_0q0, ne_3q7_0q0.symm, ne_3q7_0q1, ne_3q7_0q1.symm, rd_any, AVal.cells, setAt, List.set_cons_zero, List.set_cons_succ, cellsAt, List.getD_cons_zero, List.getD_cons_succ, Nat.zero_add, Nat.reduceAdd, lv_bool, lv_int, lv_str, lv_nilPtr, lv_ptr, lv_nilSlice, lv_slice, lv_nilFunc, lv_func, lv_nilIface, lv_iface, lv_nilMap, lv_agg, lv_tuple, allLive, Bool.and_true, decA]
          repeat (with_reducible refine And.intro ?_ ?_; · first | trivial | omega | (intro hg; simp only [Bool.and_eq_true, Bool.or_eq_true, Bool.not_eq_true', Bool.and_eq_false_iff, Bool.or_eq_false_iff, Bool.not_eq_false', decide_eq_true_eq, decide_eq_false_iff_not, eqNil] at hg; omega) )
          apply hK; clear hK K
          refine awp_ret ?_
          try simp only [thenA_ret, inBlockA_ret]
          refine retA_ret h (by repeat (first | exact Sub.refl _ | assumption | refine Sub.trans_set ?_ (by assumption))) (?_) ?_
          · simp (decide := true) only [resPre, resV_tmp, resV_cell, aOps_nil, ev, Slots.get, if_true, if_false, and_true, true_and, AHeap.set_same, resV_tmp, resV_cell, pLoad_agg ag32 sz32, rd_set, cellsAt, List.getD_cons_zero, List.getD_cons_succ, Nat.zero_add, Nat.reduceAdd, setAt, List.set_cons_zero, List.set_cons_succ, AVal.cells, lv_bool, lv_int, lv_str, lv_nilPtr, lv_ptr, lv_nilSlice, lv_slice, lv_nilFunc, lv_func, lv_nilIface, lv_iface, lv_nilMap, lv_agg, lv_tuple, allLive, Bool.and_true, Bool.true_and, rd_any, rd_ne', ne_eq, not_false_eq_true, ne_0q1_0q0, ne_0q1_0q0.symm, ne_3q7_0q0, ne_3q7_0q0.symm, ne_3q7_0q1, ne_3q7_0q1.symm, rd_any, AVal.cells, setAt, List.set_cons_zero, List.set_cons_succ, cellsAt, List.getD_cons_zero, List.getD_cons_succ, Nat.zero_add, Nat.reduceAdd, lv_bool, lv_int, lv_str, lv_nilPtr, lv_ptr, lv_nilSlice, lv_slice, lv_nilFunc, lv_func, lv_nilIface, lv_iface, lv_nilMap, lv_agg, lv_tuple, allLive, Bool.and_true, decA]
          
          simp (decide := true) only [aOps_nil, vOps_nil, fOps_nil, kOps_nil, ev, absV, absS, putD, Slots.put, Slots.get, Slots.keep, if_true, if_false, List.contains_cons, List.contains_nil, true_and, and_true, resOfG_two, resV_tmp, resV_cell, pLoad_agg ag32 sz32, rd_set, cellsAt, List.getD_cons_zero, List.getD_cons_succ, Nat.zero_add, Nat.reduceAdd, setAt, List.set_cons_zero, List.set_cons_succ, AVal.cells, lv_bool, lv_int, lv_str, lv_nilPtr, lv_ptr, lv_nilSlice, lv_slice, lv_nilFunc, lv_func, lv_nilIface, lv_iface, lv_nilMap, lv_agg, lv_tuple, allLive, Bool.and_true, Bool.true_and, rd_any, rd_ne', ne_eq, not_false_eq_true, ne_0q1_0q0, ne_0q1_0q0.symm, ne_3q7_0q0, ne_3q7_0q0.symm, ne_3q7_0q1, ne_3q7_0q1.symm, rd_any, AVal.cells, setAt, List.set_cons_zero, List.set_cons_succ, cellsAt, List.getD_cons_zero, List.getD_cons_succ, Nat.zero_add, Nat.reduceAdd, lv_bool, lv_int, lv_str, lv_nilPtr, lv_ptr, lv_nilSlice, lv_slice, lv_nilFunc, lv_func, lv_nilIface, lv_iface, lv_nilMap, lv_agg, lv_tuple, allLive, Bool.and_true, decA]
          rw [roundE, if_neg (by omega), if_neg (by rintro (e | e); exact e hb2.1; rw [hb2.2] at e; cases e), if_neg hb3, if_pos hb4]
        · try simp only [decide_eq_true_eq, decide_eq_false_iff_not, Bool.not_eq_true', Bool.not_eq_false', Bool.and_eq_true, Bool.and_eq_false_iff, Bool.or_eq_true, Bool.or_eq_false_iff, Bool.true_eq, Bool.false_eq, reduceCtorEq] at hb4
          refine awp_skip ?_
          change Awp _ _ _ _ _ _ _
          -- region 10  roundings.go:112
          refine awp_rseq [6, 8, 10, 11] (by rfl) fun K hK => ?_
          simp (decide := true) only [aOps_nil, vOps_nil, fOps_nil, kOps_nil, ev, absV, absS, putD, Slots.put, Slots.get, Slots.keep, if_true, if_false, List.contains_cons, List.contains_nil, true_and, and_true, ↓ap_fieldAddr, pop_fieldAddr, fa32_0, ↓ap_loadL, apL_mk, pLoad_one ag4, ↓ap_move, pop_move, rd_ne', ne_eq, not_false_eq_true, ne_0q1_0q0, ne_0q1_0q0.symm, ne_3q7_0q0, ne_3q7_0q0.symm, ne_3q7_0q1, ne_3q7_0q1.symm, rd_any, AVal.cells, setAt, List.set_cons_zero, List.set_cons_succ, cellsAt, List.getD_cons_zero, List.getD_cons_succ, Nat.zero_add, Nat.reduceAdd, lv_bool, lv_int, lv_str, lv_nilPtr, lv_ptr, lv_nilSlice, lv_slice, lv_nilFunc, lv_func, lv_nilIface, lv_iface, lv_nilMap, lv_agg, lv_tuple, allLive, Bool.and_true, decA]
          repeat (with_reducible refine And.intro ?_ ?_; · first | trivial | omega | (intro hg; simp only [Bool.and_eq_true, Bool.or_eq_true, Bool.not_eq_true', Bool.and_eq_false_iff, Bool.or_eq_false_iff, Bool.not_eq_false', decide_eq_true_eq, decide_eq_false_iff_not, eqNil] at hg; omega) )
          refine aOps_callV (V := .tuple [decA (newE d.neg [49] s).1, .int .i64 (newE d.neg [49] s).2]) (by rfl) (by rfl) (c_New w₀ _ d.neg [49] s (by decide)) ?_
          simp (decide := true) only [aOps_nil, vOps_nil, fOps_nil, kOps_nil, ev, absV, absS, putD, Slots.put, Slots.get, Slots.keep, if_true, if_false, List.contains_cons, List.contains_nil, true_and, and_true, ↓ap_move, pop_move, ↓ap_extract, pop_extract, pExt_tuple, List.length_cons, List.length_nil, List.getD_cons_zero, List.getD_cons_succ, rd_ne', ne_eq, not_false_eq_true, ne_0q1_0q0, ne_0q1_0q0.symm, ne_3q7_0q0, ne_3q7_0q0.symm, ne_3q7_0q1, ne_3q7_0q1.symm, rd_any, AVal.cells, setAt, List.set_cons_zero, List.set_cons_succ, cellsAt, List.getD_cons_zero, List.getD_cons_succ, Nat.zero_add, Nat.reduceAdd, lv_bool, lv_int, lv_str, lv_nilPtr, lv_ptr, lv_nilSlice, lv_slice, lv_nilFunc, lv_func, lv_nilIface, lv_iface, lv_nilMap, lv_agg, lv_tuple, allLive, Bool.and_true, decA]
          repeat (with_reducible refine And.intro ?_ ?_; · first | trivial | omega | (intro hg; simp only [Bool.and_eq_true, Bool.or_eq_true, Bool.not_eq_true', Bool.and_eq_false_iff, Bool.or_eq_false_iff, Bool.not_eq_false', decide_eq_true_eq, decide_eq_false_iff_not, eqNil] at hg; omega) )
          refine aOps_alloc ze32 (cs := [.bool false, .str [], .int .i64 0]) (by rfl) fun k10q7 hk10q7 => ?_
          have ne_10q7_0q0 : k10q7 ≠ k0q0 := by simp only [AHeap.set_none] at hk10q7; simp only [hk10q7, ne_eq, not_false_eq_true]
          have ne_10q7_0q1 : k10q7 ≠ k0q1 := by simp only [AHeap.set_none] at hk10q7; simp only [hk10q7, ne_eq, not_false_eq_true]
          have ne_10q7_3q7 : k10q7 ≠ k3q7 := by simp only [AHeap.set_none] at hk10q7; simp only [hk10q7, ne_eq, not_false_eq_true]
          try have hf_10q7 : h k10q7 = none := by first | assumption | (simp only [AHeap.set_none] at hk10q7; simp only [hk10q7])
          refine aOps_store (by rfl) (by rfl) (by repeat (first | exact AHeap.set_same _ _ _ | assumption | refine (AHeap.set_ne _ _ (by first | assumption | exact Ne.symm (by assumption))).trans ?_)) sz32 (by rfl) (by rfl) (by first | exact Nat.le_refl _ | decide | (simp; done) | (simp; omega)) (Nat.zero_le _) (by rfl) ?_
          simp only [AHeap.set_set, setAt, AVal.cells, List.set_cons_zero, List.set_cons_succ, Nat.zero_add, Nat.reduceAdd]
          simp (decide := true) only [aOps_nil, vOps_nil, fOps_nil, kOps_nil, ev, absV, absS, putD, Slots.put, Slots.get, Slots.keep, if_true, if_false, List.contains_cons, List.contains_nil, true_and, and_true, ↓ap_assign, pop_assign, rd_ne', ne_eq, not_false_eq_true, ne_0q1_0q0, ne_0q1_0q0.symm, ne_3q7_0q0, ne_3q7_0q0.symm, ne_3q7_0q1, ne_3q7_0q1.symm, ne_10q7_0q0, ne_10q7_0q0.symm, ne_10q7_0q1, ne_10q7_0q1.symm, ne_10q7_3q7, ne_10q7_3q7.symm, rd_any, AVal.cells, setAt, List.set_cons_zero, List.set_cons_succ, cellsAt, List.getD_cons_zero, List.getD_cons_succ, Nat.zero_add, Nat.reduceAdd, lv_bool, lv_int, lv_str, lv_nilPtr, lv_ptr, lv_nilSlice, lv_slice, lv_nilFunc, lv_func, lv_nilIface, lv_iface, lv_nilMap, lv_agg, lv_tuple, allLive, Bool.and_true, decA]
          repeat (with_reducible refine And.intro ?_ ?_; · first | trivial | omega | (intro hg; simp only [Bool.and_eq_true, Bool.or_eq_true, Bool.not_eq_true', Bool.and_eq_false_iff, Bool.or_eq_false_iff, Bool.not_eq_false', decide_eq_true_eq, decide_eq_false_iff_not, eqNil] at hg; omega) )
          apply hK; clear hK K
          refine awp_seq ?_
          -- region 11  roundings.go:113
          refine awp_rseq [6, 8, 10, 11, 56] (by rfl) fun K hK => ?_
          simp (decide := true) only [aOps_nil, vOps_nil, fOps_nil, kOps_nil, ev, absV, absS, putD, Slots.put, Slots.get, Slots.keep, if_true, if_false, List.contains_cons, List.contains_nil, true_and, and_true, ↓ap_move, pop_move, ↓ap_binOp, pop_binOp, isNilC_int, cond_false, pBinX_int, pI_neq, rd_ne', ne_eq, not_false_eq_true, ne_0q1_0q0, ne_0q1_0q0.symm, ne_3q7_0q0, ne_3q7_0q0.symm, ne_3q7_0q1, ne_3q7_0q1.symm, ne_10q7_0q0, ne_10q7_0q0.symm, ne_10q7_0q1, ne_10q7_0q1.symm, ne_10q7_3q7, ne_10q7_3q7.symm, rd_any, AVal.cells, setAt, List.set_cons_zero, List.set_cons_succ, cellsAt, List.getD_cons_zero, List.getD_cons_succ, Nat.zero_add, Nat.reduceAdd, lv_bool, lv_int, lv_str, lv_nilPtr, lv_ptr, lv_nilSlice, lv_slice, lv_nilFunc, lv_func, lv_nilIface, lv_iface, lv_nilMap, lv_agg, lv_tuple, allLive, Bool.and_true, decA]
          repeat (with_reducible refine And.intro ?_ ?_; · first | trivial | omega | (intro hg; simp only [Bool.and_eq_true, Bool.or_eq_true, Bool.not_eq_true', Bool.and_eq_false_iff, Bool.or_eq_false_iff, Bool.not_eq_false', decide_eq_true_eq, decide_eq_false_iff_not, eqNil] at hg; omega) )
          apply hK; clear hK K
          refine awp_cond (b := _) rfl (fun hb5 => ?_) (fun hb5 => ?_)
          · try simp only [decide_eq_true_eq, decide_eq_false_iff_not, Bool.not_eq_true', Bool.not_eq_false', Bool.and_eq_true, Bool.and_eq_false_iff, Bool.or_eq_true, Bool.or_eq_false_iff, Bool.true_eq, Bool.false_eq, reduceCtorEq] at hb5
            -- region 12  roundings.go:114
            refine awp_rseq [6, 7] (by rfl) fun K hK => ?_
            simp (decide := true) only [aOps_nil, vOps_nil, fOps_nil, kOps_nil, ev, absV, absS, putD, Slots.put, Slots.get, Slots.keep, if_true, if_false, List.contains_cons, List.contains_nil, true_and, and_true, ↓ap_build, pop_build, ↓pop_buildL, bld32_, evP, List.map_cons, List.map_nil, Sc_slice, Sc_nilSlice, Sc_nilPtr, Sc_ptr, Sc_nilFunc, Sc_func, Sc_nilMap, ↓ap_move, pop_move, rd_ne', ne_eq, not_false_eq_true, ne_0q1_0q0, ne_0q1_0q0.symm, ne_3q7_0q0, ne_3q7_0q0.symm, ne_3q7_0q1, ne_3q7_0q1.symm, ne_10q7_0q0, ne_10q7_0q0.symm, ne_10q7_0q1, ne_10q7_0q1.symm, ne_10q7_3q7, ne_10q7_3q7.symm, rd_any, AVal.cells, setAt, List.set_cons_zero, List.set_cons_succ, cellsAt, List.getD_cons_zero, List.getD_cons_succ, Nat.zero_add, Nat.reduceAdd, lv_bool, lv_int, lv_str, lv_nilPtr, lv_ptr, lv_nilSlice, lv_slice, lv_nilFunc, lv_func, lv_nilIface, lv_iface, lv_nilMap, lv_agg, lv_tuple, allLive, Bool.and_true, decA]
            repeat (with_reducible refine And.intro ?_ ?_; · first | trivial | omega | (intro hg; simp only [Bool.and_eq_true, Bool.or_eq_true, Bool.not_eq_true', Bool.and_eq_false_iff, Bool.or_eq_false_iff, Bool.not_eq_false', decide_eq_true_eq, decide_eq_false_iff_not, eqNil] at hg; omega) )
            refine aOps_store (by rfl) (by rfl) (by repeat (first | exact AHeap.set_same _ _ _ | assumption | refine (AHeap.set_ne _ _ (by first | assumption | exact Ne.symm (by assumption))).trans ?_)) sz32 (by rfl) (by rfl) (by first | exact Nat.le_refl _ | decide | (simp; done) | (simp; omega)) (Nat.zero_le _) (by rfl) ?_
            simp only [AHeap.set_set, setAt, AVal.cells, List.set_cons_zero, List.set_cons_succ, Nat.zero_add, Nat.reduceAdd]
            simp (decide := true) only [aOps_nil, vOps_nil, fOps_nil, kOps_nil, ev, absV, absS, putD, Slots.put, Slots.get, Slots.keep, if_true, if_false, List.contains_cons, List.contains_nil, true_and, and_true, ↓ap_assign, pop_assign, rd_ne', ne_eq, not_false_eq_true, ne_0q1_0q0, ne_0q1_0q0.symm, ne_3q7_0q0, ne_3q7_0q0.symm, ne_3q7_0q1, ne_3q7_0q1.symm, ne_10q7_0q0, ne_10q7_0q0.symm, ne_10q7_0q1, ne_10q7_0q1.symm, ne_10q7_3q7, ne_10q7_3q7.symm, rd_any, AVal.cells, setAt, List.set_cons_zero, List.set_cons_succ, cellsAt, List.getD_cons_zero, List.getD_cons_succ, Nat.zero_add, Nat.reduceAdd, lv_bool, lv_int, lv_str, lv_nilPtr, lv_ptr, lv_nilSlice, lv_slice, lv_nilFunc, lv_func, lv_nilIface, lv_iface, lv_nilMap, lv_agg, lv_tuple, allLive, Bool.and_true, decA]
            repeat (with_reducible refine And.intro ?_ ?_; · first | trivial | omega | (intro hg; simp only [Bool.and_eq_true, Bool.or_eq_true, Bool.not_eq_true', Bool.and_eq_false_iff, Bool.or_eq_false_iff, Bool.not_eq_false', decide_eq_true_eq, decide_eq_false_iff_not, eqNil] at hg; omega) )
            apply hK; clear hK K
            refine awp_ret ?_
            try simp only [thenA_ret, inBlockA_ret]
            refine retA_ret h (by repeat (first | exact Sub.refl _ | assumption | refine Sub.trans_set ?_ (by assumption))) (?_) ?_
            · simp (decide := true) only [resPre, resV_tmp, resV_cell, aOps_nil, ev, Slots.get, if_true, if_false, and_true, true_and, AHeap.set_same, resV_tmp, resV_cell, pLoad_agg ag32 sz32, rd_set, cellsAt, List.getD_cons_zero, List.getD_cons_succ, Nat.zero_add, Nat.reduceAdd, setAt, List.set_cons_zero, List.set_cons_succ, AVal.cells, lv_bool, lv_int, lv_str, lv_nilPtr, lv_ptr, lv_nilSlice, lv_slice, lv_nilFunc, lv_func, lv_nilIface, lv_iface, lv_nilMap, lv_agg, lv_tuple, allLive, Bool.and_true, Bool.true_and, rd_any, rd_ne', ne_eq, not_false_eq_true, ne_0q1_0q0, ne_0q1_0q0.symm, ne_3q7_0q0, ne_3q7_0q0.symm, ne_3q7_0q1, ne_3q7_0q1.symm, ne_10q7_0q0, ne_10q7_0q0.symm, ne_10q7_0q1, ne_10q7_0q1.symm, ne_10q7_3q7, ne_10q7_3q7.symm, rd_any, AVal.cells, setAt, List.set_cons_zero, List.set_cons_succ, cellsAt, List.getD_cons_zero, List.getD_cons_succ, Nat.zero_add, Nat.reduceAdd, lv_bool, lv_int, lv_str, lv_nilPtr, lv_ptr, lv_nilSlice, lv_slice, lv_nilFunc, lv_func, lv_nilIface, lv_iface, lv_nilMap, lv_agg, lv_tuple, allLive, Bool.and_true, decA]
            
            simp (decide := true) only [aOps_nil, vOps_nil, fOps_nil, kOps_nil, ev, absV, absS, putD, Slots.put, Slots.get, Slots.keep, if_true, if_false, List.contains_cons, List.contains_nil, true_and, and_true, resOfG_two, resV_tmp, resV_cell, pLoad_agg ag32 sz32, rd_set, cellsAt, List.getD_cons_zero, List.getD_cons_succ, Nat.zero_add, Nat.reduceAdd, setAt, List.set_cons_zero, List.set_cons_succ, AVal.cells, lv_bool, lv_int, lv_str, lv_nilPtr, lv_ptr, lv_nilSlice, lv_slice, lv_nilFunc, lv_func, lv_nilIface, lv_iface, lv_nilMap, lv_agg, lv_tuple, allLive, Bool.and_true, Bool.true_and, rd_any, rd_ne', ne_eq, not_false_eq_true, ne_0q1_0q0, ne_0q1_0q0.symm, ne_3q7_0q0, ne_3q7_0q0.symm, ne_3q7_0q1, ne_3q7_0q1.symm, ne_10q7_0q0, ne_10q7_0q0.symm, ne_10q7_0q1, ne_10q7_0q1.symm, ne_10q7_3q7, ne_10q7_3q7.symm, rd_any, AVal.cells, setAt, List.set_cons_zero, List.set_cons_succ, cellsAt, List.getD_cons_zero, List.getD_cons_succ, Nat.zero_add, Nat.reduceAdd, lv_bool, lv_int, lv_str, lv_nilPtr, lv_ptr, lv_nilSlice, lv_slice, lv_nilFunc, lv_func, lv_nilIface, lv_iface, lv_nilMap, lv_agg, lv_tuple, allLive, Bool.and_true, decA]
            rw [roundE, if_neg (by omega), if_neg (by rintro (e | e); exact e hb2.1; rw [hb2.2] at e; cases e), if_neg hb3, if_neg (by simp [hb4]), if_pos hb5]
            rfl
          · try simp only [decide_eq_true_eq, decide_eq_false_iff_not, Bool.not_eq_true', Bool.not_eq_false', Bool.and_eq_true, Bool.and_eq_false_iff, Bool.or_eq_true, Bool.or_eq_false_iff, Bool.true_eq, Bool.false_eq, reduceCtorEq] at hb5
            refine awp_skip ?_
            change Awp _ _ _ _ _ _ _
            -- region 13  roundings.go:116
            refine awp_rseq [6, 7] (by rfl) fun K hK => ?_
            simp (decide := true) only [aOps_nil, vOps_nil, fOps_nil, kOps_nil, ev, absV, absS, putD, Slots.put, Slots.get, Slots.keep, if_true, if_false, List.contains_cons, List.contains_nil, true_and, and_true, ↓ap_loadL, apL_mk, pLoad_agg ag32 sz32, rd_ne', ne_eq, not_false_eq_true, ne_0q1_0q0, ne_0q1_0q0.symm, ne_3q7_0q0, ne_3q7_0q0.symm, ne_3q7_0q1, ne_3q7_0q1.symm, ne_10q7_0q0, ne_10q7_0q0.symm, ne_10q7_0q1, ne_10q7_0q1.symm, ne_10q7_3q7, ne_10q7_3q7.symm, rd_any, AVal.cells, setAt, List.set_cons_zero, List.set_cons_succ, cellsAt, List.getD_cons_zero, List.getD_cons_succ, Nat.zero_add, Nat.reduceAdd, lv_bool, lv_int, lv_str, lv_nilPtr, lv_ptr, lv_nilSlice, lv_slice, lv_nilFunc, lv_func, lv_nilIface, lv_iface, lv_nilMap, lv_agg, lv_tuple, allLive, Bool.and_true, decA]
            repeat (with_reducible refine And.intro ?_ ?_; · first | trivial | omega | (intro hg; simp only [Bool.and_eq_true, Bool.or_eq_true, Bool.not_eq_true', Bool.and_eq_false_iff, Bool.or_eq_false_iff, Bool.not_eq_false', decide_eq_true_eq, decide_eq_false_iff_not, eqNil] at hg; omega) )
            refine aOps_callV (V := .tuple [decA (addE (cutE d s).1 (newE d.neg [49] s).1).1, .int .i64 (addE (cutE d s).1 (newE d.neg [49] s).1).2]) (by rfl) (by rfl) (c_Add w₀ _ _ _ (by omega) (by have := newE_len d.neg [49] s; omega)) ?_
            simp (decide := true) only [aOps_nil, vOps_nil, fOps_nil, kOps_nil, ev, absV, absS, putD, Slots.put, Slots.get, Slots.keep, if_true, if_false, List.contains_cons, List.contains_nil, true_and, and_true, ↓ap_extract, pop_extract, pExt_tuple, List.length_cons, List.length_nil, List.getD_cons_zero, List.getD_cons_succ, rd_ne', ne_eq, not_false_eq_true, ne_0q1_0q0, ne_0q1_0q0.symm, ne_3q7_0q0, ne_3q7_0q0.symm, ne_3q7_0q1, ne_3q7_0q1.symm, ne_10q7_0q0, ne_10q7_0q0.symm, ne_10q7_0q1, ne_10q7_0q1.symm, ne_10q7_3q7, ne_10q7_3q7.symm, rd_any, AVal.cells, setAt, List.set_cons_zero, List.set_cons_succ, cellsAt, List.getD_cons_zero, List.getD_cons_succ, Nat.zero_add, Nat.reduceAdd, lv_bool, lv_int, lv_str, lv_nilPtr, lv_ptr, lv_nilSlice, lv_slice, lv_nilFunc, lv_func, lv_nilIface, lv_iface, lv_nilMap, lv_agg, lv_tuple, allLive, Bool.and_true, decA]
            repeat (with_reducible refine And.intro ?_ ?_; · first | trivial | omega | (intro hg; simp only [Bool.and_eq_true, Bool.or_eq_true, Bool.not_eq_true', Bool.and_eq_false_iff, Bool.or_eq_false_iff, Bool.not_eq_false', decide_eq_true_eq, decide_eq_false_iff_not, eqNil] at hg; omega) )
            refine aOps_store (by rfl) (by rfl) (by repeat (first | exact AHeap.set_same _ _ _ | assumption | refine (AHeap.set_ne _ _ (by first | assumption | exact Ne.symm (by assumption))).trans ?_)) sz32 (by rfl) (by rfl) (by first | exact Nat.le_refl _ | decide | (simp; done) | (simp; omega)) (Nat.zero_le _) (by rfl) ?_
            simp only [AHeap.set_set, setAt, AVal.cells, List.set_cons_zero, List.set_cons_succ, Nat.zero_add, Nat.reduceAdd]
            simp (decide := true) only [aOps_nil, vOps_nil, fOps_nil, kOps_nil, ev, absV, absS, putD, Slots.put, Slots.get, Slots.keep, if_true, if_false, List.contains_cons, List.contains_nil, true_and, and_true, ↓ap_assign, pop_assign, rd_ne', ne_eq, not_false_eq_true, ne_0q1_0q0, ne_0q1_0q0.symm, ne_3q7_0q0, ne_3q7_0q0.symm, ne_3q7_0q1, ne_3q7_0q1.symm, ne_10q7_0q0, ne_10q7_0q0.symm, ne_10q7_0q1, ne_10q7_0q1.symm, ne_10q7_3q7, ne_10q7_3q7.symm, rd_any, AVal.cells, setAt, List.set_cons_zero, List.set_cons_succ, cellsAt, List.getD_cons_zero, List.getD_cons_succ, Nat.zero_add, Nat.reduceAdd, lv_bool, lv_int, lv_str, lv_nilPtr, lv_ptr, lv_nilSlice, lv_slice, lv_nilFunc, lv_func, lv_nilIface, lv_iface, lv_nilMap, lv_agg, lv_tuple, allLive, Bool.and_true, decA]
            repeat (with_reducible refine And.intro ?_ ?_; · first | trivial | omega | (intro hg; simp only [Bool.and_eq_true, Bool.or_eq_true, Bool.not_eq_true', Bool.and_eq_false_iff, Bool.or_eq_false_iff, Bool.not_eq_false', decide_eq_true_eq, decide_eq_false_iff_not, eqNil] at hg; omega) )
            apply hK; clear hK K
            refine awp_ret ?_
            try simp only [thenA_ret, inBlockA_ret]
            refine retA_ret h (by repeat (first | exact Sub.refl _ | assumption | refine Sub.trans_set ?_ (by assumption))) (?_) ?_
            · simp (decide := true) only [resPre, resV_tmp, resV_cell, aOps_nil, ev, Slots.get, if_true, if_false, and_true, true_and, AHeap.set_same, resV_tmp, resV_cell, pLoad_agg ag32 sz32, rd_set, cellsAt, List.getD_cons_zero, List.getD_cons_succ, Nat.zero_add, Nat.reduceAdd, setAt, List.set_cons_zero, List.set_cons_succ, AVal.cells, lv_bool, lv_int, lv_str, lv_nilPtr, lv_ptr, lv_nilSlice, lv_slice, lv_nilFunc, lv_func, lv_nilIface, lv_iface, lv_nilMap, lv_agg, lv_tuple, allLive, Bool.and_true, Bool.true_and, rd_any, rd_ne', ne_eq, not_false_eq_true, ne_0q1_0q0, ne_0q1_0q0.symm, ne_3q7_0q0, ne_3q7_0q0.symm, ne_3q7_0q1, ne_3q7_0q1.symm, ne_10q7_0q0, ne_10q7_0q0.symm, ne_10q7_0q1, ne_10q7_0q1.symm, ne_10q7_3q7, ne_10q7_3q7.symm, rd_any, AVal.cells, setAt, List.set_cons_zero, List.set_cons_succ, cellsAt, List.getD_cons_zero, List.getD_cons_succ, Nat.zero_add, Nat.reduceAdd, lv_bool, lv_int, lv_str, lv_nilPtr, lv_ptr, lv_nilSlice, lv_slice, lv_nilFunc, lv_func, lv_nilIface, lv_iface, lv_nilMap, lv_agg, lv_tuple, allLive, Bool.and_true, decA]
            
            simp (decide := true) only [aOps_nil, vOps_nil, fOps_nil, kOps_nil, ev, absV, absS, putD, Slots.put, Slots.get, Slots.keep, if_true, if_false, List.contains_cons, List.contains_nil, true_and, and_true, resOfG_two, resV_tmp, resV_cell, pLoad_agg ag32 sz32, rd_set, cellsAt, List.getD_cons_zero, List.getD_cons_succ, Nat.zero_add, Nat.reduceAdd, setAt, List.set_cons_zero, List.set_cons_succ, AVal.cells, lv_bool, lv_int, lv_str, lv_nilPtr, lv_ptr, lv_nilSlice, lv_slice, lv_nilFunc, lv_func, lv_nilIface, lv_iface, lv_nilMap, lv_agg, lv_tuple, allLive, Bool.and_true, Bool.true_and, rd_any, rd_ne', ne_eq, not_false_eq_true, ne_0q1_0q0, ne_0q1_0q0.symm, ne_3q7_0q0, ne_3q7_0q0.symm, ne_3q7_0q1, ne_3q7_0q1.symm, ne_10q7_0q0, ne_10q7_0q0.symm, ne_10q7_0q1, ne_10q7_0q1.symm, ne_10q7_3q7, ne_10q7_3q7.symm, rd_any, AVal.cells, setAt, List.set_cons_zero, List.set_cons_succ, cellsAt, List.getD_cons_zero, List.getD_cons_succ, Nat.zero_add, Nat.reduceAdd, lv_bool, lv_int, lv_str, lv_nilPtr, lv_ptr, lv_nilSlice, lv_slice, lv_nilFunc, lv_func, lv_nilIface, lv_iface, lv_nilMap, lv_agg, lv_tuple, allLive, Bool.and_true, decA]
            rw [roundE, if_neg (by omega), if_neg (by rintro (e | e); exact e hb2.1; rw [hb2.2] at e; cases e), if_neg hb3, if_neg (by simp [hb4]), if_neg (by simpa using hb5)]

end Go.Proofs.YteagjfcmhmmljaaDoor

/-
  Contracts: places, Fits, Low, Digits of the package roundings.
  Conditions: none.
-/
namespace Go.Proofs.YteagjfcmhmmljaaDoor
open Go.AM
open Go.Proofs
open Go.Dec
open Go.Lib (decDigits)
set_option maxRecDepth 100000

/-- The digits at the places of a grid. -/
def placesE (d : D) (n s : Int) : List UInt8 × Bool :=
  if (cutE d s).2.1 = false then ([], false)
  else
    (List.replicate (max (n - ((if 0 ≤ s - d.scale then d.dig ++ List.replicate (s - d.scale).toNat 48 else d.dig.take (max ((d.dig.length : Int) + (s - d.scale)) 0).toNat).length : Int)) 0).toNat 48 ++
      (if 0 ≤ s - d.scale then d.dig ++ List.replicate (s - d.scale).toNat 48 else d.dig.take (max ((d.dig.length : Int) + (s - d.scale)) 0).toNat), true)

theorem c_places (w₀ : World) (h : AHeap) (d : D) (n s : Int) (sd : Small d) (h1 : -62 ≤ s) (h2 : s ≤ 62) (n0 : 1 ≤ n) (n1 : n ≤ 62) :
    ACall Tryd.prog w₀ 20 [decA d, .int .i64 n, .int .i64 s] h (fun v h' => v = .tuple [.str (placesE d n s).1, .bool (placesE d n s).2] ∧ h' = h) := by
  have ha1 := sd.l
  have ha2 := sd.s0
  have ha3 := sd.s1
  refine acall_intro (n := 49) (rs := [.tmp 6, .tmp 7]) Tryd.func20 rfl rfl rfl rfl (Nat.le_of_ble_eq_true rfl) ?_
  simp only [initSlots]
  -- region 0  roundings.go:120
  refine awp_rseq [1, 2, 3] (by rfl) fun K hK => ?_
  refine aOps_box (by rfl) (by rfl) (by rfl) fun k0q0 hk0q0 => ?_
  try have hf_0q0 : h k0q0 = none := by first | assumption | (simp only [AHeap.set_none] at hk0q0; simp only [hk0q0])
  skip
  simp (decide := true) only [aOps_nil, vOps_nil, fOps_nil, kOps_nil, ev, absV, absS, putD, Slots.put, Slots.get, Slots.keep, if_true, if_false, List.contains_cons, List.contains_nil, true_and, and_true, ↓ap_assign, pop_assign, rd_ne', ne_eq, not_false_eq_true, rd_any, AVal.cells, setAt, List.set_cons_zero, List.set_cons_succ, cellsAt, List.getD_cons_zero, List.getD_cons_succ, Nat.zero_add, Nat.reduceAdd, lv_bool, lv_int, lv_str, lv_nilPtr, lv_ptr, lv_nilSlice, lv_slice, lv_nilFunc, lv_func, lv_nilIface, lv_iface, lv_nilMap, lv_agg, lv_tuple, allLive, Bool.and_true, decA]
  repeat (with_reducible refine And.intro ?_ ?_; · first | trivial | omega | (intro hg; simp only [Bool.and_eq_true, Bool.or_eq_true, Bool.not_eq_true', Bool.and_eq_false_iff, Bool.or_eq_false_iff, Bool.not_eq_false', decide_eq_true_eq, decide_eq_false_iff_not, eqNil] at hg; omega) )
  apply hK; clear hK K
  refine awp_seq ?_
  -- region 1  roundings.go:121
  refine awp_rseq [1, 2, 3, 9] (by rfl) fun K hK => ?_
  simp (decide := true) only [aOps_nil, vOps_nil, fOps_nil, kOps_nil, ev, absV, absS, putD, Slots.put, Slots.get, Slots.keep, if_true, if_false, List.contains_cons, List.contains_nil, true_and, and_true, ↓ap_loadL, apL_mk, pLoad_agg ag32 sz32, ↓ap_move, pop_move, rd_ne', ne_eq, not_false_eq_true, rd_any, AVal.cells, setAt, List.set_cons_zero, List.set_cons_succ, cellsAt, List.getD_cons_zero, List.getD_cons_succ, Nat.zero_add, Nat.reduceAdd, lv_bool, lv_int, lv_str, lv_nilPtr, lv_ptr, lv_nilSlice, lv_slice, lv_nilFunc, lv_func, lv_nilIface, lv_iface, lv_nilMap, lv_agg, lv_tuple, allLive, Bool.and_true, decA]
  repeat (with_reducible refine And.intro ?_ ?_; · first | trivial | omega | (intro hg; simp only [Bool.and_eq_true, Bool.or_eq_true, Bool.not_eq_true', Bool.and_eq_false_iff, Bool.or_eq_false_iff, Bool.not_eq_false', decide_eq_true_eq, decide_eq_false_iff_not, eqNil] at hg; omega) )
  refine aOps_callV (V := .tuple [decA (cutE d s).1, .bool (cutE d s).2.1, .int .i64 (cutE d s).2.2]) (by rfl) (by rfl) (c_Cut w₀ _ d s (by omega) (by omega) (by omega)) ?_
  simp (decide := true) only [aOps_nil, vOps_nil, fOps_nil, kOps_nil, ev, absV, absS, putD, Slots.put, Slots.get, Slots.keep, if_true, if_false, List.contains_cons, List.contains_nil, true_and, and_true, ↓ap_move, pop_move, ↓ap_extract, pop_extract, pExt_tuple, List.length_cons, List.length_nil, List.getD_cons_zero, List.getD_cons_succ, rd_ne', ne_eq, not_false_eq_true, rd_any, AVal.cells, setAt, List.set_cons_zero, List.set_cons_succ, cellsAt, List.getD_cons_zero, List.getD_cons_succ, Nat.zero_add, Nat.reduceAdd, lv_bool, lv_int, lv_str, lv_nilPtr, lv_ptr, lv_nilSlice, lv_slice, lv_nilFunc, lv_func, lv_nilIface, lv_iface, lv_nilMap, lv_agg, lv_tuple, allLive, Bool.and_true, decA]
  repeat (with_reducible refine And.intro ?_ ?_; · first | trivial | omega | (intro hg; simp only [Bool.and_eq_true, Bool.or_eq_true, Bool.not_eq_true', Bool.and_eq_false_iff, Bool.or_eq_false_iff, Bool.not_eq_false', decide_eq_true_eq, decide_eq_false_iff_not, eqNil] at hg; omega) )
  refine aOps_alloc ze32 (cs := [.bool false, .str [], .int .i64 0]) (by rfl) fun k1q7 hk1q7 => ?_
  have ne_1q7_0q0 : k1q7 ≠ k0q0 := by simp only [AHeap.set_none] at hk1q7; simp only [hk1q7, ne_eq, not_false_eq_true]
  try have hf_1q7 : h k1q7 = none := by first | assumption | (simp only [AHeap.set_none] at hk1q7; simp only [hk1q7])
  refine aOps_store (by rfl) (by rfl) (by repeat (first | exact AHeap.set_same _ _ _ | assumption | refine (AHeap.set_ne _ _ (by first | assumption | exact Ne.symm (by assumption))).trans ?_)) sz32 (by rfl) (by rfl) (by first | exact Nat.le_refl _ | decide | (simp; done) | (simp; omega)) (Nat.zero_le _) (by rfl) ?_
  simp only [AHeap.set_set, setAt, AVal.cells, List.set_cons_zero, List.set_cons_succ, Nat.zero_add, Nat.reduceAdd]
  simp (decide := true) only [aOps_nil, vOps_nil, fOps_nil, kOps_nil, ev, absV, absS, putD, Slots.put, Slots.get, Slots.keep, if_true, if_false, List.contains_cons, List.contains_nil, true_and, and_true, ↓ap_assign, pop_assign, rd_ne', ne_eq, not_false_eq_true, ne_1q7_0q0, ne_1q7_0q0.symm, rd_any, AVal.cells, setAt, List.set_cons_zero, List.set_cons_succ, cellsAt, List.getD_cons_zero, List.getD_cons_succ, Nat.zero_add, Nat.reduceAdd, lv_bool, lv_int, lv_str, lv_nilPtr, lv_ptr, lv_nilSlice, lv_slice, lv_nilFunc, lv_func, lv_nilIface, lv_iface, lv_nilMap, lv_agg, lv_tuple, allLive, Bool.and_true, decA]
  repeat (with_reducible refine And.intro ?_ ?_; · first | trivial | omega | (intro hg; simp only [Bool.and_eq_true, Bool.or_eq_true, Bool.not_eq_true', Bool.and_eq_false_iff, Bool.or_eq_false_iff, Bool.not_eq_false', decide_eq_true_eq, decide_eq_false_iff_not, eqNil] at hg; omega) )
  apply hK; clear hK K
  -- region 2  roundings.go:121
  refine awp_rseq [1, 2, 3, 21] (by rfl) fun K hK => ?_
  simp (decide := true) only [aOps_nil, vOps_nil, fOps_nil, kOps_nil, ev, absV, absS, putD, Slots.put, Slots.get, Slots.keep, if_true, if_false, List.contains_cons, List.contains_nil, true_and, and_true, ↓ap_move, pop_move, ↓ap_unOp, pop_unOp, pU_not, rd_ne', ne_eq, not_false_eq_true, ne_1q7_0q0, ne_1q7_0q0.symm, rd_any, AVal.cells, setAt, List.set_cons_zero, List.set_cons_succ, cellsAt, List.getD_cons_zero, List.getD_cons_succ, Nat.zero_add, Nat.reduceAdd, lv_bool, lv_int, lv_str, lv_nilPtr, lv_ptr, lv_nilSlice, lv_slice, lv_nilFunc, lv_func, lv_nilIface, lv_iface, lv_nilMap, lv_agg, lv_tuple, allLive, Bool.and_true, decA]
  try simp (disch := omega) only [wrap_i64, wrap_u8]
  repeat (with_reducible refine And.intro ?_ ?_; · first | trivial | omega | (intro hg; simp only [Bool.and_eq_true, Bool.or_eq_true, Bool.not_eq_true', Bool.and_eq_false_iff, Bool.or_eq_false_iff, Bool.not_eq_false', decide_eq_true_eq, decide_eq_false_iff_not, eqNil] at hg; omega) )
  apply hK; clear hK K
  refine awp_cond (b := _) rfl (fun hb1 => ?_) (fun hb1 => ?_)
  · try simp only [decide_eq_true_eq, decide_eq_false_iff_not, Bool.not_eq_true', Bool.not_eq_false', Bool.and_eq_true, Bool.and_eq_false_iff, Bool.or_eq_true, Bool.or_eq_false_iff, Bool.true_eq, Bool.false_eq, reduceCtorEq] at hb1
    -- region 3  roundings.go:122
    refine awp_rseq [6, 7] (by rfl) fun K hK => ?_
    simp (decide := true) only [aOps_nil, vOps_nil, fOps_nil, kOps_nil, ev, absV, absS, putD, Slots.put, Slots.get, Slots.keep, if_true, if_false, List.contains_cons, List.contains_nil, true_and, and_true, ↓ap_assign, pop_assign, rd_ne', ne_eq, not_false_eq_true, ne_1q7_0q0, ne_1q7_0q0.symm, rd_any, AVal.cells, setAt, List.set_cons_zero, List.set_cons_succ, cellsAt, List.getD_cons_zero, List.getD_cons_succ, Nat.zero_add, Nat.reduceAdd, lv_bool, lv_int, lv_str, lv_nilPtr, lv_ptr, lv_nilSlice, lv_slice, lv_nilFunc, lv_func, lv_nilIface, lv_iface, lv_nilMap, lv_agg, lv_tuple, allLive, Bool.and_true, decA]
    repeat (with_reducible refine And.intro ?_ ?_; · first | trivial | omega | (intro hg; simp only [Bool.and_eq_true, Bool.or_eq_true, Bool.not_eq_true', Bool.and_eq_false_iff, Bool.or_eq_false_iff, Bool.not_eq_false', decide_eq_true_eq, decide_eq_false_iff_not, eqNil] at hg; omega) )
    apply hK; clear hK K
    refine awp_ret ?_
    try simp only [thenA_ret, inBlockA_ret]
    refine retA_ret h (by repeat (first | exact Sub.refl _ | assumption | refine Sub.trans_set ?_ (by assumption))) (resPre_tmp (resPre_tmp (resPre_nil))) ?_
    simp (decide := true) only [aOps_nil, vOps_nil, fOps_nil, kOps_nil, ev, absV, absS, putD, Slots.put, Slots.get, Slots.keep, if_true, if_false, List.contains_cons, List.contains_nil, true_and, and_true, resOf_two, rd_ne', ne_eq, not_false_eq_true, ne_1q7_0q0, ne_1q7_0q0.symm, rd_any, AVal.cells, setAt, List.set_cons_zero, List.set_cons_succ, cellsAt, List.getD_cons_zero, List.getD_cons_succ, Nat.zero_add, Nat.reduceAdd, lv_bool, lv_int, lv_str, lv_nilPtr, lv_ptr, lv_nilSlice, lv_slice, lv_nilFunc, lv_func, lv_nilIface, lv_iface, lv_nilMap, lv_agg, lv_tuple, allLive, Bool.and_true, decA]
    rw [placesE, if_pos hb1]
  · try simp only [decide_eq_true_eq, decide_eq_false_iff_not, Bool.not_eq_true', Bool.not_eq_false', Bool.and_eq_true, Bool.and_eq_false_iff, Bool.or_eq_true, Bool.or_eq_false_iff, Bool.true_eq, Bool.false_eq, reduceCtorEq] at hb1
    refine awp_skip ?_
    change Awp _ _ _ _ _ _ _
    -- region 4  roundings.go:124
    refine awp_rseq [1, 2, 3, 11] (by rfl) fun K hK => ?_
    simp (decide := true) only [aOps_nil, vOps_nil, fOps_nil, kOps_nil, ev, absV, absS, putD, Slots.put, Slots.get, Slots.keep, if_true, if_false, List.contains_cons, List.contains_nil, true_and, and_true, ↓ap_fieldAddr, pop_fieldAddr, fa32_1, ↓ap_loadL, apL_mk, pLoad_one ag9, ↓ap_assign, pop_assign, rd_ne', ne_eq, not_false_eq_true, ne_1q7_0q0, ne_1q7_0q0.symm, rd_any, AVal.cells, setAt, List.set_cons_zero, List.set_cons_succ, cellsAt, List.getD_cons_zero, List.getD_cons_succ, Nat.zero_add, Nat.reduceAdd, lv_bool, lv_int, lv_str, lv_nilPtr, lv_ptr, lv_nilSlice, lv_slice, lv_nilFunc, lv_func, lv_nilIface, lv_iface, lv_nilMap, lv_agg, lv_tuple, allLive, Bool.and_true, decA]
    repeat (with_reducible refine And.intro ?_ ?_; · first | trivial | omega | (intro hg; simp only [Bool.and_eq_true, Bool.or_eq_true, Bool.not_eq_true', Bool.and_eq_false_iff, Bool.or_eq_false_iff, Bool.not_eq_false', decide_eq_true_eq, decide_eq_false_iff_not, eqNil] at hg; omega) )
    apply hK; clear hK K
    refine awp_seq ?_
    -- region 5  roundings.go:125
    refine awp_rseq [1, 11, 12] (by rfl) fun K hK => ?_
    simp (decide := true) only [aOps_nil, vOps_nil, fOps_nil, kOps_nil, ev, absV, absS, putD, Slots.put, Slots.get, Slots.keep, if_true, if_false, List.contains_cons, List.contains_nil, true_and, and_true, ↓ap_move, pop_move, ↓ap_fieldAddr, pop_fieldAddr, fa32_2, ↓ap_loadL, apL_mk, pLoad_one ag3, ↓ap_binOp, pop_binOp, isNilC_tmp, cond_false, pBinX_int, pI_sub, ↓ap_assign, pop_assign, rd_ne', ne_eq, not_false_eq_true, ne_1q7_0q0, ne_1q7_0q0.symm, rd_any, AVal.cells, setAt, List.set_cons_zero, List.set_cons_succ, cellsAt, List.getD_cons_zero, List.getD_cons_succ, Nat.zero_add, Nat.reduceAdd, lv_bool, lv_int, lv_str, lv_nilPtr, lv_ptr, lv_nilSlice, lv_slice, lv_nilFunc, lv_func, lv_nilIface, lv_iface, lv_nilMap, lv_agg, lv_tuple, allLive, Bool.and_true, decA]
    try simp (disch := omega) only [wrap_i64, wrap_u8]
    repeat (with_reducible refine And.intro ?_ ?_; · first | trivial | omega | (intro hg; simp only [Bool.and_eq_true, Bool.or_eq_true, Bool.not_eq_true', Bool.and_eq_false_iff, Bool.or_eq_false_iff, Bool.not_eq_false', decide_eq_true_eq, decide_eq_false_iff_not, eqNil] at hg; omega) )
    apply hK; clear hK K
    -- region 6  roundings.go:125
    refine awp_rseq [1, 11, 12, 29] (by rfl) fun K hK => ?_
    simp (decide := true) only [aOps_nil, vOps_nil, fOps_nil, kOps_nil, ev, absV, absS, putD, Slots.put, Slots.get, Slots.keep, if_true, if_false, List.contains_cons, List.contains_nil, true_and, and_true, ↓ap_move, pop_move, ↓ap_binOp, pop_binOp, isNilC_int, cond_false, pBinX_int, pI_geq, rd_ne', ne_eq, not_false_eq_true, ne_1q7_0q0, ne_1q7_0q0.symm, rd_any, AVal.cells, setAt, List.set_cons_zero, List.set_cons_succ, cellsAt, List.getD_cons_zero, List.getD_cons_succ, Nat.zero_add, Nat.reduceAdd, lv_bool, lv_int, lv_str, lv_nilPtr, lv_ptr, lv_nilSlice, lv_slice, lv_nilFunc, lv_func, lv_nilIface, lv_iface, lv_nilMap, lv_agg, lv_tuple, allLive, Bool.and_true, decA]
    repeat (with_reducible refine And.intro ?_ ?_; · first | trivial | omega | (intro hg; simp only [Bool.and_eq_true, Bool.or_eq_true, Bool.not_eq_true', Bool.and_eq_false_iff, Bool.or_eq_false_iff, Bool.not_eq_false', decide_eq_true_eq, decide_eq_false_iff_not, eqNil] at hg; omega) )
    apply hK; clear hK K
    refine awp_joinT [1, 11] (fun t : List UInt8 => [(1, .int .i64 n), (11, .str t)]) (fun t : List UInt8 => h) (fun t : List UInt8 => t = (if 0 ≤ s - d.scale then d.dig ++ List.replicate (s - d.scale).toNat 48 else d.dig.take (max ((d.dig.length : Int) + (s - d.scale)) 0).toNat)) ?_ ?_
    · refine awp_cond (b := _) rfl (fun hb2 => ?_) (fun hb2 => ?_)
      · try simp only [decide_eq_true_eq, decide_eq_false_iff_not, Bool.not_eq_true', Bool.not_eq_false', Bool.and_eq_true, Bool.and_eq_false_iff, Bool.or_eq_true, Bool.or_eq_false_iff, Bool.true_eq, Bool.false_eq, reduceCtorEq] at hb2
        -- region 7  roundings.go:126
        refine awp_r [1, 11] (by rfl) ?_
        simp (decide := true) only [aOps_nil, vOps_nil, fOps_nil, kOps_nil, ev, absV, absS, putD, Slots.put, Slots.get, Slots.keep, if_true, if_false, List.contains_cons, List.contains_nil, true_and, and_true, ↓ap_move, pop_move, rd_ne', ne_eq, not_false_eq_true, ne_1q7_0q0, ne_1q7_0q0.symm, rd_any, AVal.cells, setAt, List.set_cons_zero, List.set_cons_succ, cellsAt, List.getD_cons_zero, List.getD_cons_succ, Nat.zero_add, Nat.reduceAdd, lv_bool, lv_int, lv_str, lv_nilPtr, lv_ptr, lv_nilSlice, lv_slice, lv_nilFunc, lv_func, lv_nilIface, lv_iface, lv_nilMap, lv_agg, lv_tuple, allLive, Bool.and_true, decA]
        repeat (with_reducible refine And.intro ?_ ?_; · first | trivial | omega | (intro hg; simp only [Bool.and_eq_true, Bool.or_eq_true, Bool.not_eq_true', Bool.and_eq_false_iff, Bool.or_eq_false_iff, Bool.not_eq_false', decide_eq_true_eq, decide_eq_false_iff_not, eqNil] at hg; omega) )
        refine aOps_callV (V := .str (List.replicate (s - d.scale).toNat 48)) (by rfl) (by rfl) (c_repeatI w₀ _ 48 _ (by omega) (by omega)) ?_
        simp (decide := true) only [aOps_nil, vOps_nil, fOps_nil, kOps_nil, ev, absV, absS, putD, Slots.put, Slots.get, Slots.keep, if_true, if_false, List.contains_cons, List.contains_nil, true_and, and_true, ↓ap_binOp, pop_binOp, isNilC_tmp, cond_false, pBinX_str, pS_add, ↓ap_assign, pop_assign, rd_ne', ne_eq, not_false_eq_true, ne_1q7_0q0, ne_1q7_0q0.symm, rd_any, AVal.cells, setAt, List.set_cons_zero, List.set_cons_succ, cellsAt, List.getD_cons_zero, List.getD_cons_succ, Nat.zero_add, Nat.reduceAdd, lv_bool, lv_int, lv_str, lv_nilPtr, lv_ptr, lv_nilSlice, lv_slice, lv_nilFunc, lv_func, lv_nilIface, lv_iface, lv_nilMap, lv_agg, lv_tuple, allLive, Bool.and_true, decA]
        refine And.intro (by simp; omega) ?_
        try simp only [thenA_normal, inBlockA_normal]
        refine ⟨_, rfl, (by repeat (first | exact Sub.refl _ | refine Sub.trans_set ?_ (by assumption))), ?_⟩
        first | rw [if_pos hb2] | (rw [if_neg hb2]; simp)
      · try simp only [decide_eq_true_eq, decide_eq_false_iff_not, Bool.not_eq_true', Bool.not_eq_false', Bool.and_eq_true, Bool.and_eq_false_iff, Bool.or_eq_true, Bool.or_eq_false_iff, Bool.true_eq, Bool.false_eq, reduceCtorEq] at hb2
        -- region 8  roundings.go:128
        refine awp_r [1, 11] (by rfl) ?_
        simp (decide := true) only [aOps_nil, vOps_nil, fOps_nil, kOps_nil, ev, absV, absS, putD, Slots.put, Slots.get, Slots.keep, if_true, if_false, List.contains_cons, List.contains_nil, true_and, and_true, ↓ap_move, pop_move, ↓ap_len, pop_len, pLen_str Tryd.underlying9, ↓ap_binOp, pop_binOp, isNilC_tmp, cond_false, pBinX_int, pI_add, ↓ap_max, pop_max, pMax_int, evs, List.map_cons, List.map_nil, rd_ne', ne_eq, not_false_eq_true, ne_1q7_0q0, ne_1q7_0q0.symm, rd_any, AVal.cells, setAt, List.set_cons_zero, List.set_cons_succ, cellsAt, List.getD_cons_zero, List.getD_cons_succ, Nat.zero_add, Nat.reduceAdd, lv_bool, lv_int, lv_str, lv_nilPtr, lv_ptr, lv_nilSlice, lv_slice, lv_nilFunc, lv_func, lv_nilIface, lv_iface, lv_nilMap, lv_agg, lv_tuple, allLive, Bool.and_true, decA]
        try simp (disch := omega) only [wrap_i64, wrap_u8]
        try simp (decide := true) only [aOps_nil, vOps_nil, fOps_nil, kOps_nil, ev, absV, absS, putD, Slots.put, Slots.get, Slots.keep, if_true, if_false, List.contains_cons, List.contains_nil, true_and, and_true, ↓ap_slice, pop_slice, evO, pSliceS_00 Tryd.underlying9, pSliceS_0i Tryd.underlying9, pSliceS_i0 Tryd.underlying9, pSliceS_ii Tryd.underlying9, pSliceS, bndA_none, bndA_int, ↓ap_assign, pop_assign, rd_ne', ne_eq, not_false_eq_true, ne_1q7_0q0, ne_1q7_0q0.symm, rd_any, AVal.cells, setAt, List.set_cons_zero, List.set_cons_succ, cellsAt, List.getD_cons_zero, List.getD_cons_succ, Nat.zero_add, Nat.reduceAdd, lv_bool, lv_int, lv_str, lv_nilPtr, lv_ptr, lv_nilSlice, lv_slice, lv_nilFunc, lv_func, lv_nilIface, lv_iface, lv_nilMap, lv_agg, lv_tuple, allLive, Bool.and_true, decA]
        repeat (with_reducible refine And.intro ?_ ?_; · first | trivial | omega | (intro hg; simp only [Bool.and_eq_true, Bool.or_eq_true, Bool.not_eq_true', Bool.and_eq_false_iff, Bool.or_eq_false_iff, Bool.not_eq_false', decide_eq_true_eq, decide_eq_false_iff_not, eqNil] at hg; omega) )
        try simp only [thenA_normal, inBlockA_normal]
        refine ⟨_, rfl, (by repeat (first | exact Sub.refl _ | refine Sub.trans_set ?_ (by assumption))), ?_⟩
        first | rw [if_pos hb2] | (rw [if_neg hb2]; simp)
    · intro t ht
      have htl : t.length ≤ 200 := by
        rw [ht]
        split
        · simp; omega
        · simp; omega
      -- region 9  roundings.go:130
      refine awp_rseq [6, 7] (by rfl) fun K hK => ?_
      simp (decide := true) only [aOps_nil, vOps_nil, fOps_nil, kOps_nil, ev, absV, absS, putD, Slots.put, Slots.get, Slots.keep, if_true, if_false, List.contains_cons, List.contains_nil, true_and, and_true, ↓ap_move, pop_move, ↓ap_len, pop_len, pLen_str Tryd.underlying9, ↓ap_binOp, pop_binOp, isNilC_tmp, cond_false, pBinX_int, pI_sub, ↓ap_max, pop_max, pMax_int, evs, List.map_cons, List.map_nil, rd_ne', ne_eq, not_false_eq_true, ne_1q7_0q0, ne_1q7_0q0.symm, rd_any, AVal.cells, setAt, List.set_cons_zero, List.set_cons_succ, cellsAt, List.getD_cons_zero, List.getD_cons_succ, Nat.zero_add, Nat.reduceAdd, lv_bool, lv_int, lv_str, lv_nilPtr, lv_ptr, lv_nilSlice, lv_slice, lv_nilFunc, lv_func, lv_nilIface, lv_iface, lv_nilMap, lv_agg, lv_tuple, allLive, Bool.and_true, decA]
      try simp (disch := omega) only [wrap_i64, wrap_u8]
      repeat (with_reducible refine And.intro ?_ ?_; · first | trivial | omega | (intro hg; simp only [Bool.and_eq_true, Bool.or_eq_true, Bool.not_eq_true', Bool.and_eq_false_iff, Bool.or_eq_false_iff, Bool.not_eq_false', decide_eq_true_eq, decide_eq_false_iff_not, eqNil] at hg; omega) )
      refine aOps_callV (V := .str (List.replicate (max (n - t.length) 0).toNat 48)) (by rfl) (by rfl) (c_repeatI w₀ _ 48 _ (by omega) (by omega)) ?_
      simp (decide := true) only [aOps_nil, vOps_nil, fOps_nil, kOps_nil, ev, absV, absS, putD, Slots.put, Slots.get, Slots.keep, if_true, if_false, List.contains_cons, List.contains_nil, true_and, and_true, ↓ap_move, pop_move, ↓ap_binOp, pop_binOp, isNilC_tmp, cond_false, pBinX_str, pS_add, ↓ap_assign, pop_assign, rd_ne', ne_eq, not_false_eq_true, ne_1q7_0q0, ne_1q7_0q0.symm, rd_any, AVal.cells, setAt, List.set_cons_zero, List.set_cons_succ, cellsAt, List.getD_cons_zero, List.getD_cons_succ, Nat.zero_add, Nat.reduceAdd, lv_bool, lv_int, lv_str, lv_nilPtr, lv_ptr, lv_nilSlice, lv_slice, lv_nilFunc, lv_func, lv_nilIface, lv_iface, lv_nilMap, lv_agg, lv_tuple, allLive, Bool.and_true, decA]
      refine And.intro (by simp; omega) ?_
      apply hK; clear hK K
      refine awp_ret ?_
      try simp only [thenA_ret, inBlockA_ret]
      refine retA_ret h (by repeat (first | exact Sub.refl _ | assumption | refine Sub.trans_set ?_ (by assumption))) (resPre_tmp (resPre_tmp (resPre_nil))) ?_
      simp (decide := true) only [aOps_nil, vOps_nil, fOps_nil, kOps_nil, ev, absV, absS, putD, Slots.put, Slots.get, Slots.keep, if_true, if_false, List.contains_cons, List.contains_nil, true_and, and_true, resOf_two, rd_ne', ne_eq, not_false_eq_true, ne_1q7_0q0, ne_1q7_0q0.symm, rd_any, AVal.cells, setAt, List.set_cons_zero, List.set_cons_succ, cellsAt, List.getD_cons_zero, List.getD_cons_succ, Nat.zero_add, Nat.reduceAdd, lv_bool, lv_int, lv_str, lv_nilPtr, lv_ptr, lv_nilSlice, lv_slice, lv_nilFunc, lv_func, lv_nilIface, lv_iface, lv_nilMap, lv_agg, lv_tuple, allLive, Bool.and_true, decA]
      rw [placesE, if_neg (by simp [hb1]), ← ht]

def fitsE (d : D) (g s : Int) : Bool × Int :=
  if chkR d g s ≠ 0 then (false, chkR d g s)
  else ((placesE d g s).2 && ((placesE d g s).1.take (((placesE d g s).1.length : Int) - g).toNat).all (· == 48), 0)

theorem placesE_len (d : D) (n s : Int) (sd : Small d) (h1 : -62 ≤ s) (h2 : s ≤ 62) (n0 : 1 ≤ n) (n1 : n ≤ 62) : (placesE d n s).1.length ≤ 300 ∧ ((placesE d n s).2 = true → n ≤ (placesE d n s).1.length) ∧ ((placesE d n s).2 = false → (placesE d n s).1 = []) := by
  have ha1 := sd.l
  have ha2 := sd.s0
  have ha3 := sd.s1
  unfold placesE
  split
  · simp
  · refine ⟨?_, fun _ => ?_, fun e => by cases e⟩
    · split <;> simp <;> omega
    · split <;> simp <;> omega

theorem c_Fits (w₀ : World) (h : AHeap) (d : D) (g s : Int) (hl : d.dig.length ≤ 9223372036854775807) (g0 : -9223372036854775808 ≤ g) (g1 : g ≤ 9223372036854775807) :
    ACall Tryd.prog w₀ 10 [decA d, .int .i64 g, .int .i64 s] h (fun v h' => v = .tuple [.bool (fitsE d g s).1, .int .i64 (fitsE d g s).2] ∧ h' = h) := by
  refine acall_intro (n := 36) (rs := [.tmp 6, .tmp 7]) Tryd.func10 rfl rfl rfl rfl (Nat.le_of_ble_eq_true rfl) ?_
  simp only [initSlots]
  -- region 0  roundings.go:134
  refine awp_rseq [1, 2, 3] (by rfl) fun K hK => ?_
  refine aOps_box (by rfl) (by rfl) (by rfl) fun k0q0 hk0q0 => ?_
  try have hf_0q0 : h k0q0 = none := by first | assumption | (simp only [AHeap.set_none] at hk0q0; simp only [hk0q0])
  skip
  simp (decide := true) only [aOps_nil, vOps_nil, fOps_nil, kOps_nil, ev, absV, absS, putD, Slots.put, Slots.get, Slots.keep, if_true, if_false, List.contains_cons, List.contains_nil, true_and, and_true, ↓ap_assign, pop_assign, rd_ne', ne_eq, not_false_eq_true, rd_any, AVal.cells, setAt, List.set_cons_zero, List.set_cons_succ, cellsAt, List.getD_cons_zero, List.getD_cons_succ, Nat.zero_add, Nat.reduceAdd, lv_bool, lv_int, lv_str, lv_nilPtr, lv_ptr, lv_nilSlice, lv_slice, lv_nilFunc, lv_func, lv_nilIface, lv_iface, lv_nilMap, lv_agg, lv_tuple, allLive, Bool.and_true, decA]
  repeat (with_reducible refine And.intro ?_ ?_; · first | trivial | omega | (intro hg; simp only [Bool.and_eq_true, Bool.or_eq_true, Bool.not_eq_true', Bool.and_eq_false_iff, Bool.or_eq_false_iff, Bool.not_eq_false', decide_eq_true_eq, decide_eq_false_iff_not, eqNil] at hg; omega) )
  apply hK; clear hK K
  refine awp_seq ?_
  -- region 1  roundings.go:135
  refine awp_rseq [1, 2, 3, 8] (by rfl) fun K hK => ?_
  simp (decide := true) only [aOps_nil, vOps_nil, fOps_nil, kOps_nil, ev, absV, absS, putD, Slots.put, Slots.get, Slots.keep, if_true, if_false, List.contains_cons, List.contains_nil, true_and, and_true, ↓ap_loadL, apL_mk, pLoad_agg ag32 sz32, ↓ap_move, pop_move, rd_ne', ne_eq, not_false_eq_true, rd_any, AVal.cells, setAt, List.set_cons_zero, List.set_cons_succ, cellsAt, List.getD_cons_zero, List.getD_cons_succ, Nat.zero_add, Nat.reduceAdd, lv_bool, lv_int, lv_str, lv_nilPtr, lv_ptr, lv_nilSlice, lv_slice, lv_nilFunc, lv_func, lv_nilIface, lv_iface, lv_nilMap, lv_agg, lv_tuple, allLive, Bool.and_true, decA]
  repeat (with_reducible refine And.intro ?_ ?_; · first | trivial | omega | (intro hg; simp only [Bool.and_eq_true, Bool.or_eq_true, Bool.not_eq_true', Bool.and_eq_false_iff, Bool.or_eq_false_iff, Bool.not_eq_false', decide_eq_true_eq, decide_eq_false_iff_not, eqNil] at hg; omega) )
  refine aOps_callV (V := .int .i64 (chkR d g s)) (by rfl) (by rfl) (c_chkR w₀ _ d g s hl) ?_
  simp (decide := true) only [aOps_nil, vOps_nil, fOps_nil, kOps_nil, ev, absV, absS, putD, Slots.put, Slots.get, Slots.keep, if_true, if_false, List.contains_cons, List.contains_nil, true_and, and_true, ↓ap_assign, pop_assign, rd_ne', ne_eq, not_false_eq_true, rd_any, AVal.cells, setAt, List.set_cons_zero, List.set_cons_succ, cellsAt, List.getD_cons_zero, List.getD_cons_succ, Nat.zero_add, Nat.reduceAdd, lv_bool, lv_int, lv_str, lv_nilPtr, lv_ptr, lv_nilSlice, lv_slice, lv_nilFunc, lv_func, lv_nilIface, lv_iface, lv_nilMap, lv_agg, lv_tuple, allLive, Bool.and_true, decA]
  repeat (with_reducible refine And.intro ?_ ?_; · first | trivial | omega | (intro hg; simp only [Bool.and_eq_true, Bool.or_eq_true, Bool.not_eq_true', Bool.and_eq_false_iff, Bool.or_eq_false_iff, Bool.not_eq_false', decide_eq_true_eq, decide_eq_false_iff_not, eqNil] at hg; omega) )
  apply hK; clear hK K
  -- region 2  roundings.go:135
  refine awp_rseq [1, 2, 3, 8, 16] (by rfl) fun K hK => ?_
  simp (decide := true) only [aOps_nil, vOps_nil, fOps_nil, kOps_nil, ev, absV, absS, putD, Slots.put, Slots.get, Slots.keep, if_true, if_false, List.contains_cons, List.contains_nil, true_and, and_true, ↓ap_move, pop_move, ↓ap_binOp, pop_binOp, isNilC_int, cond_false, pBinX_int, pI_neq, rd_ne', ne_eq, not_false_eq_true, rd_any, AVal.cells, setAt, List.set_cons_zero, List.set_cons_succ, cellsAt, List.getD_cons_zero, List.getD_cons_succ, Nat.zero_add, Nat.reduceAdd, lv_bool, lv_int, lv_str, lv_nilPtr, lv_ptr, lv_nilSlice, lv_slice, lv_nilFunc, lv_func, lv_nilIface, lv_iface, lv_nilMap, lv_agg, lv_tuple, allLive, Bool.and_true, decA]
  repeat (with_reducible refine And.intro ?_ ?_; · first | trivial | omega | (intro hg; simp only [Bool.and_eq_true, Bool.or_eq_true, Bool.not_eq_true', Bool.and_eq_false_iff, Bool.or_eq_false_iff, Bool.not_eq_false', decide_eq_true_eq, decide_eq_false_iff_not, eqNil] at hg; omega) )
  apply hK; clear hK K
  refine awp_cond (b := _) rfl (fun hb1 => ?_) (fun hb1 => ?_)
  · try simp only [decide_eq_true_eq, decide_eq_false_iff_not, Bool.not_eq_true', Bool.not_eq_false', Bool.and_eq_true, Bool.and_eq_false_iff, Bool.or_eq_true, Bool.or_eq_false_iff, Bool.true_eq, Bool.false_eq, reduceCtorEq] at hb1
    -- region 3  roundings.go:136
    refine awp_rseq [6, 7] (by rfl) fun K hK => ?_
    simp (decide := true) only [aOps_nil, vOps_nil, fOps_nil, kOps_nil, ev, absV, absS, putD, Slots.put, Slots.get, Slots.keep, if_true, if_false, List.contains_cons, List.contains_nil, true_and, and_true, ↓ap_move, pop_move, ↓ap_assign, pop_assign, rd_ne', ne_eq, not_false_eq_true, rd_any, AVal.cells, setAt, List.set_cons_zero, List.set_cons_succ, cellsAt, List.getD_cons_zero, List.getD_cons_succ, Nat.zero_add, Nat.reduceAdd, lv_bool, lv_int, lv_str, lv_nilPtr, lv_ptr, lv_nilSlice, lv_slice, lv_nilFunc, lv_func, lv_nilIface, lv_iface, lv_nilMap, lv_agg, lv_tuple, allLive, Bool.and_true, decA]
    repeat (with_reducible refine And.intro ?_ ?_; · first | trivial | omega | (intro hg; simp only [Bool.and_eq_true, Bool.or_eq_true, Bool.not_eq_true', Bool.and_eq_false_iff, Bool.or_eq_false_iff, Bool.not_eq_false', decide_eq_true_eq, decide_eq_false_iff_not, eqNil] at hg; omega) )
    apply hK; clear hK K
    refine awp_ret ?_
    try simp only [thenA_ret, inBlockA_ret]
    refine retA_ret h (by repeat (first | exact Sub.refl _ | assumption | refine Sub.trans_set ?_ (by assumption))) (resPre_tmp (resPre_tmp (resPre_nil))) ?_
    simp (decide := true) only [aOps_nil, vOps_nil, fOps_nil, kOps_nil, ev, absV, absS, putD, Slots.put, Slots.get, Slots.keep, if_true, if_false, List.contains_cons, List.contains_nil, true_and, and_true, resOf_two, rd_ne', ne_eq, not_false_eq_true, rd_any, AVal.cells, setAt, List.set_cons_zero, List.set_cons_succ, cellsAt, List.getD_cons_zero, List.getD_cons_succ, Nat.zero_add, Nat.reduceAdd, lv_bool, lv_int, lv_str, lv_nilPtr, lv_ptr, lv_nilSlice, lv_slice, lv_nilFunc, lv_func, lv_nilIface, lv_iface, lv_nilMap, lv_agg, lv_tuple, allLive, Bool.and_true, decA]
    rw [fitsE, if_pos hb1]
  · try simp only [decide_eq_true_eq, decide_eq_false_iff_not, Bool.not_eq_true', Bool.not_eq_false', Bool.and_eq_true, Bool.and_eq_false_iff, Bool.or_eq_true, Bool.or_eq_false_iff, Bool.true_eq, Bool.false_eq, reduceCtorEq] at hb1
    obtain ⟨hv, gg0, gg1, hs0, hs1⟩ := chkR_0 (by simpa using hb1)
    obtain ⟨sd, dd, _, _⟩ := Small_of_check hv
    obtain ⟨pl1, pl2, pl3⟩ := placesE_len d g s sd hs0 hs1 gg0 gg1
    refine awp_skip ?_
    change Awp _ _ _ _ _ _ _
    -- region 4  roundings.go:138
    refine awp_rseq [1, 9, 10] (by rfl) fun K hK => ?_
    simp (decide := true) only [aOps_nil, vOps_nil, fOps_nil, kOps_nil, ev, absV, absS, putD, Slots.put, Slots.get, Slots.keep, if_true, if_false, List.contains_cons, List.contains_nil, true_and, and_true, ↓ap_loadL, apL_mk, pLoad_agg ag32 sz32, ↓ap_move, pop_move, rd_ne', ne_eq, not_false_eq_true, rd_any, AVal.cells, setAt, List.set_cons_zero, List.set_cons_succ, cellsAt, List.getD_cons_zero, List.getD_cons_succ, Nat.zero_add, Nat.reduceAdd, lv_bool, lv_int, lv_str, lv_nilPtr, lv_ptr, lv_nilSlice, lv_slice, lv_nilFunc, lv_func, lv_nilIface, lv_iface, lv_nilMap, lv_agg, lv_tuple, allLive, Bool.and_true, decA]
    repeat (with_reducible refine And.intro ?_ ?_; · first | trivial | omega | (intro hg; simp only [Bool.and_eq_true, Bool.or_eq_true, Bool.not_eq_true', Bool.and_eq_false_iff, Bool.or_eq_false_iff, Bool.not_eq_false', decide_eq_true_eq, decide_eq_false_iff_not, eqNil] at hg; omega) )
    refine aOps_callV (V := .tuple [.str (placesE d g s).1, .bool (placesE d g s).2]) (by rfl) (by rfl) (c_places w₀ _ d g s sd hs0 hs1 gg0 gg1) ?_
    simp (decide := true) only [aOps_nil, vOps_nil, fOps_nil, kOps_nil, ev, absV, absS, putD, Slots.put, Slots.get, Slots.keep, if_true, if_false, List.contains_cons, List.contains_nil, true_and, and_true, ↓ap_move, pop_move, ↓ap_extract, pop_extract, pExt_tuple, List.length_cons, List.length_nil, List.getD_cons_zero, List.getD_cons_succ, ↓ap_assign, pop_assign, rd_ne', ne_eq, not_false_eq_true, rd_any, AVal.cells, setAt, List.set_cons_zero, List.set_cons_succ, cellsAt, List.getD_cons_zero, List.getD_cons_succ, Nat.zero_add, Nat.reduceAdd, lv_bool, lv_int, lv_str, lv_nilPtr, lv_ptr, lv_nilSlice, lv_slice, lv_nilFunc, lv_func, lv_nilIface, lv_iface, lv_nilMap, lv_agg, lv_tuple, allLive, Bool.and_true, decA]
    repeat (with_reducible refine And.intro ?_ ?_; · first | trivial | omega | (intro hg; simp only [Bool.and_eq_true, Bool.or_eq_true, Bool.not_eq_true', Bool.and_eq_false_iff, Bool.or_eq_false_iff, Bool.not_eq_false', decide_eq_true_eq, decide_eq_false_iff_not, eqNil] at hg; omega) )
    apply hK; clear hK K
    -- region 5  roundings.go:139
    refine awp_rseq [6, 7] (by rfl) fun K hK => ?_
    simp (decide := true) only [aOps_nil, vOps_nil, fOps_nil, kOps_nil, ev, absV, absS, putD, Slots.put, Slots.get, Slots.keep, if_true, if_false, List.contains_cons, List.contains_nil, true_and, and_true, ↓ap_move, pop_move, ↓ag_move, agP, agQ_some, gv, nthDst, gKnown_bool, gKnown_cond, guardB_cond, guardB_bool_true, guardB_bool_false, cv_cv, implies_true, Bool.not_not, decide_true, decide_false, Bool.not_false, Bool.not_true, condV_true, condV_false, forall_const, false_implies, pickV_true, pickV_false, Bool.and_true, Bool.and_false, Bool.true_and, Bool.false_and, Bool.or_true, Bool.or_false, Bool.true_or, Bool.false_or, ↓ag_len, pop_len, pLen_str Tryd.underlying9, cv_len, cp_len, ↓ag_binOp, pop_binOp, isNilC_tmp, cond_false, cv_binl, cv_binr, cp_binl, cp_binr, pBinX_int, pI_sub, ↓ag_slice, pop_slice, evO, pSliceS_00 Tryd.underlying9, pSliceS_0i Tryd.underlying9, pSliceS_i0 Tryd.underlying9, pSliceS_ii Tryd.underlying9, pSliceS, bndA_none, bndA_int, cv_slice, cp_slice, cv_slicelo, cp_slicelo, cv_slicehi, cp_slicehi, rd_ne', ne_eq, not_false_eq_true, rd_any, AVal.cells, setAt, List.set_cons_zero, List.set_cons_succ, cellsAt, List.getD_cons_zero, List.getD_cons_succ, Nat.zero_add, Nat.reduceAdd, lv_bool, lv_int, lv_str, lv_nilPtr, lv_ptr, lv_nilSlice, lv_slice, lv_nilFunc, lv_func, lv_nilIface, lv_iface, lv_nilMap, lv_agg, lv_tuple, allLive, Bool.and_true, decA, Int.toNat_natCast, List.drop_zero, Nat.sub_zero, show Int.toNat ((0 : Nat) : Int) = 0 from rfl]
    try simp (disch := omega) only [wrap_i64, wrap_u8]
    refine And.intro (fun hg => by have := pl2 hg; omega) ?_
    first
    | (refine aOps_yes (by rfl) ?_; refine aOps_callV (V := .str (Go.Lib.trimB ((placesE d g s).1.take (((placesE d g s).1.length : Int) - g).toNat) 48)) (by rfl) (by rfl) (c_trim0 w₀ _ _ 48 (by decide) (by simp; omega)) ?_)
    | (refine aOps_no (by rfl) (by rfl) ?_)
    | (refine aOps_gcall (V := .str (Go.Lib.trimB ((placesE d g s).1.take (((placesE d g s).1.length : Int) - g).toNat) 48)) (f := _) (cap := _) (xs := _) (by first | rfl | (simp (decide := true) only [gv, nthDst, Slots.get, if_true, if_false, gKnown_cond, gKnown_bool])) (fun hg => ⟨rfl, ?_⟩) (fun hg => c_trim0 w₀ _ _ 48 (by decide) (by simp; omega)) ?_; · (simp (decide := true) only [gv, nthDst, putD, Slots.put, Slots.get, if_true, if_false, guardB_bool_true, guardB_bool_false, guardB_cond, Bool.not_not] at hg; simp (decide := true) only [evs, ev, putD, Slots.put, Slots.get, if_true, if_false, hg, condV_true, List.append_nil, List.map_cons, List.map_nil, absV, absS] <;> try rfl))
    simp (decide := true) only [aOps_nil, vOps_nil, fOps_nil, kOps_nil, ev, absV, absS, putD, Slots.put, Slots.get, Slots.keep, if_true, if_false, List.contains_cons, List.contains_nil, true_and, and_true, gv, nthDst, guardB_bool_true, guardB_bool_false, guardB_cond, ↓ag_binOp, pop_binOp, agP, agQ_some, gKnown_bool, gKnown_cond, cv_cv, implies_true, Bool.not_not, decide_true, decide_false, Bool.not_false, Bool.not_true, condV_true, condV_false, forall_const, false_implies, pickV_true, pickV_false, Bool.and_true, Bool.and_false, Bool.true_and, Bool.false_and, Bool.or_true, Bool.or_false, Bool.true_or, Bool.false_or, isNilC_str, cond_false, cv_binl, cv_binr, cp_binl, cp_binr, pBinX_str, pS_eql, ↓ap_pick, pop_pick, pPick_bool, pickV_cond_l, pickV_cond_r, pickV_cond_rn, cp_nest1, cp_nest2, cp_nest3, cp_nest4, pickV_and, pickV_or, ↓ap_assign, pop_assign, rd_ne', ne_eq, not_false_eq_true, rd_any, AVal.cells, setAt, List.set_cons_zero, List.set_cons_succ, cellsAt, List.getD_cons_zero, List.getD_cons_succ, Nat.zero_add, Nat.reduceAdd, lv_bool, lv_int, lv_str, lv_nilPtr, lv_ptr, lv_nilSlice, lv_slice, lv_nilFunc, lv_func, lv_nilIface, lv_iface, lv_nilMap, lv_agg, lv_tuple, allLive, Bool.and_true, decA, Int.toNat_natCast, List.drop_zero, Nat.sub_zero, show Int.toNat ((0 : Nat) : Int) = 0 from rfl]
    repeat (with_reducible refine And.intro ?_ ?_; · first | trivial | omega | (intro hg; simp only [Bool.and_eq_true, Bool.or_eq_true, Bool.not_eq_true', Bool.and_eq_false_iff, Bool.or_eq_false_iff, Bool.not_eq_false', decide_eq_true_eq, decide_eq_false_iff_not, eqNil] at hg; omega) )
    apply hK; clear hK K
    refine awp_ret ?_
    try simp only [thenA_ret, inBlockA_ret]
    refine retA_ret h (by repeat (first | exact Sub.refl _ | assumption | refine Sub.trans_set ?_ (by assumption))) (resPre_tmp (resPre_tmp (resPre_nil))) ?_
    simp (decide := true) only [aOps_nil, vOps_nil, fOps_nil, kOps_nil, ev, absV, absS, putD, Slots.put, Slots.get, Slots.keep, if_true, if_false, List.contains_cons, List.contains_nil, true_and, and_true, resOf_two, rd_ne', ne_eq, not_false_eq_true, rd_any, AVal.cells, setAt, List.set_cons_zero, List.set_cons_succ, cellsAt, List.getD_cons_zero, List.getD_cons_succ, Nat.zero_add, Nat.reduceAdd, lv_bool, lv_int, lv_str, lv_nilPtr, lv_ptr, lv_nilSlice, lv_slice, lv_nilFunc, lv_func, lv_nilIface, lv_iface, lv_nilMap, lv_agg, lv_tuple, allLive, Bool.and_true, decA]
    rw [fitsE, if_neg (by omega), trimB_nil]

def lowE (d : D) (g s : Int) : D × Int :=
  if chkR d g s ≠ 0 then (noD, chkR d g s)
  else if (placesE d g s).2 = false then (noD, 14)
  else newE d.neg ((placesE d g s).1.drop (((placesE d g s).1.length : Int) - g).toNat) s

theorem c_Low (w₀ : World) (h : AHeap) (d : D) (g s : Int) (hl : d.dig.length ≤ 9223372036854775807) (g0 : -9223372036854775808 ≤ g) (g1 : g ≤ 9223372036854775807) :
    ACall Tryd.prog w₀ 11 [decA d, .int .i64 g, .int .i64 s] h (fun v h' => v = .tuple [decA (lowE d g s).1, .int .i64 (lowE d g s).2] ∧ h' = h) := by
  refine acall_intro (n := 41) (rs := [.cell 6 32, .tmp 7]) Tryd.func11 rfl rfl rfl rfl (Nat.le_of_ble_eq_true rfl) ?_
  simp only [initSlots]
  -- region 0  roundings.go:143
  refine awp_rseq [1, 2, 3, 6] (by rfl) fun K hK => ?_
  refine aOps_box (by rfl) (by rfl) (by rfl) fun k0q0 hk0q0 => ?_
  try have hf_0q0 : h k0q0 = none := by first | assumption | (simp only [AHeap.set_none] at hk0q0; simp only [hk0q0])
  skip
  refine aOps_alloc ze32 (cs := [.bool false, .str [], .int .i64 0]) (by rfl) fun k0q1 hk0q1 => ?_
  have ne_0q1_0q0 : k0q1 ≠ k0q0 := by simp only [AHeap.set_none] at hk0q1; simp only [hk0q1, ne_eq, not_false_eq_true]
  try have hf_0q1 : h k0q1 = none := by first | assumption | (simp only [AHeap.set_none] at hk0q1; simp only [hk0q1])
  simp (decide := true) only [aOps_nil, vOps_nil, fOps_nil, kOps_nil, ev, absV, absS, putD, Slots.put, Slots.get, Slots.keep, if_true, if_false, List.contains_cons, List.contains_nil, true_and, and_true, ↓ap_assign, pop_assign, rd_ne', ne_eq, not_false_eq_true, ne_0q1_0q0, ne_0q1_0q0.symm, rd_any, AVal.cells, setAt, List.set_cons_zero, List.set_cons_succ, cellsAt, List.getD_cons_zero, List.getD_cons_succ, Nat.zero_add, Nat.reduceAdd, lv_bool, lv_int, lv_str, lv_nilPtr, lv_ptr, lv_nilSlice, lv_slice, lv_nilFunc, lv_func, lv_nilIface, lv_iface, lv_nilMap, lv_agg, lv_tuple, allLive, Bool.and_true, decA]
  repeat (with_reducible refine And.intro ?_ ?_; · first | trivial | omega | (intro hg; simp only [Bool.and_eq_true, Bool.or_eq_true, Bool.not_eq_true', Bool.and_eq_false_iff, Bool.or_eq_false_iff, Bool.not_eq_false', decide_eq_true_eq, decide_eq_false_iff_not, eqNil] at hg; omega) )
  apply hK; clear hK K
  refine awp_seq ?_
  -- region 1  roundings.go:144
  refine awp_rseq [1, 2, 3, 6, 8] (by rfl) fun K hK => ?_
  simp (decide := true) only [aOps_nil, vOps_nil, fOps_nil, kOps_nil, ev, absV, absS, putD, Slots.put, Slots.get, Slots.keep, if_true, if_false, List.contains_cons, List.contains_nil, true_and, and_true, ↓ap_loadL, apL_mk, pLoad_agg ag32 sz32, ↓ap_move, pop_move, rd_ne', ne_eq, not_false_eq_true, ne_0q1_0q0, ne_0q1_0q0.symm, rd_any, AVal.cells, setAt, List.set_cons_zero, List.set_cons_succ, cellsAt, List.getD_cons_zero, List.getD_cons_succ, Nat.zero_add, Nat.reduceAdd, lv_bool, lv_int, lv_str, lv_nilPtr, lv_ptr, lv_nilSlice, lv_slice, lv_nilFunc, lv_func, lv_nilIface, lv_iface, lv_nilMap, lv_agg, lv_tuple, allLive, Bool.and_true, decA]
  repeat (with_reducible refine And.intro ?_ ?_; · first | trivial | omega | (intro hg; simp only [Bool.and_eq_true, Bool.or_eq_true, Bool.not_eq_true', Bool.and_eq_false_iff, Bool.or_eq_false_iff, Bool.not_eq_false', decide_eq_true_eq, decide_eq_false_iff_not, eqNil] at hg; omega) )
  refine aOps_callV (V := .int .i64 (chkR d g s)) (by rfl) (by rfl) (c_chkR w₀ _ d g s hl) ?_
  simp (decide := true) only [aOps_nil, vOps_nil, fOps_nil, kOps_nil, ev, absV, absS, putD, Slots.put, Slots.get, Slots.keep, if_true, if_false, List.contains_cons, List.contains_nil, true_and, and_true, ↓ap_assign, pop_assign, rd_ne', ne_eq, not_false_eq_true, ne_0q1_0q0, ne_0q1_0q0.symm, rd_any, AVal.cells, setAt, List.set_cons_zero, List.set_cons_succ, cellsAt, List.getD_cons_zero, List.getD_cons_succ, Nat.zero_add, Nat.reduceAdd, lv_bool, lv_int, lv_str, lv_nilPtr, lv_ptr, lv_nilSlice, lv_slice, lv_nilFunc, lv_func, lv_nilIface, lv_iface, lv_nilMap, lv_agg, lv_tuple, allLive, Bool.and_true, decA]
  repeat (with_reducible refine And.intro ?_ ?_; · first | trivial | omega | (intro hg; simp only [Bool.and_eq_true, Bool.or_eq_true, Bool.not_eq_true', Bool.and_eq_false_iff, Bool.or_eq_false_iff, Bool.not_eq_false', decide_eq_true_eq, decide_eq_false_iff_not, eqNil] at hg; omega) )
  apply hK; clear hK K
  -- region 2  roundings.go:144
  refine awp_rseq [1, 2, 3, 6, 8, 16] (by rfl) fun K hK => ?_
  simp (decide := true) only [aOps_nil, vOps_nil, fOps_nil, kOps_nil, ev, absV, absS, putD, Slots.put, Slots.get, Slots.keep, if_true, if_false, List.contains_cons, List.contains_nil, true_and, and_true, ↓ap_move, pop_move, ↓ap_binOp, pop_binOp, isNilC_int, cond_false, pBinX_int, pI_neq, rd_ne', ne_eq, not_false_eq_true, ne_0q1_0q0, ne_0q1_0q0.symm, rd_any, AVal.cells, setAt, List.set_cons_zero, List.set_cons_succ, cellsAt, List.getD_cons_zero, List.getD_cons_succ, Nat.zero_add, Nat.reduceAdd, lv_bool, lv_int, lv_str, lv_nilPtr, lv_ptr, lv_nilSlice, lv_slice, lv_nilFunc, lv_func, lv_nilIface, lv_iface, lv_nilMap, lv_agg, lv_tuple, allLive, Bool.and_true, decA]
  repeat (with_reducible refine And.intro ?_ ?_; · first | trivial | omega | (intro hg; simp only [Bool.and_eq_true, Bool.or_eq_true, Bool.not_eq_true', Bool.and_eq_false_iff, Bool.or_eq_false_iff, Bool.not_eq_false', decide_eq_true_eq, decide_eq_false_iff_not, eqNil] at hg; omega) )
  apply hK; clear hK K
  refine awp_cond (b := _) rfl (fun hb1 => ?_) (fun hb1 => ?_)
  · try simp only [decide_eq_true_eq, decide_eq_false_iff_not, Bool.not_eq_true', Bool.not_eq_false', Bool.and_eq_true, Bool.and_eq_false_iff, Bool.or_eq_true, Bool.or_eq_false_iff, Bool.true_eq, Bool.false_eq, reduceCtorEq] at hb1
    -- region 3  roundings.go:145
    refine awp_rseq [6, 7] (by rfl) fun K hK => ?_
    simp (decide := true) only [aOps_nil, vOps_nil, fOps_nil, kOps_nil, ev, absV, absS, putD, Slots.put, Slots.get, Slots.keep, if_true, if_false, List.contains_cons, List.contains_nil, true_and, and_true, ↓ap_build, pop_build, ↓pop_buildL, bld32_, evP, List.map_cons, List.map_nil, Sc_slice, Sc_nilSlice, Sc_nilPtr, Sc_ptr, Sc_nilFunc, Sc_func, Sc_nilMap, ↓ap_move, pop_move, rd_ne', ne_eq, not_false_eq_true, ne_0q1_0q0, ne_0q1_0q0.symm, rd_any, AVal.cells, setAt, List.set_cons_zero, List.set_cons_succ, cellsAt, List.getD_cons_zero, List.getD_cons_succ, Nat.zero_add, Nat.reduceAdd, lv_bool, lv_int, lv_str, lv_nilPtr, lv_ptr, lv_nilSlice, lv_slice, lv_nilFunc, lv_func, lv_nilIface, lv_iface, lv_nilMap, lv_agg, lv_tuple, allLive, Bool.and_true, decA]
    repeat (with_reducible refine And.intro ?_ ?_; · first | trivial | omega | (intro hg; simp only [Bool.and_eq_true, Bool.or_eq_true, Bool.not_eq_true', Bool.and_eq_false_iff, Bool.or_eq_false_iff, Bool.not_eq_false', decide_eq_true_eq, decide_eq_false_iff_not, eqNil] at hg; omega) )
    refine aOps_store (by rfl) (by rfl) (by repeat (first | exact AHeap.set_same _ _ _ | assumption | refine (AHeap.set_ne _ _ (by first | assumption | exact Ne.symm (by assumption))).trans ?_)) sz32 (by rfl) (by rfl) (by first | exact Nat.le_refl _ | decide | (simp; done) | (simp; omega)) (Nat.zero_le _) (by rfl) ?_
    simp only [AHeap.set_set, setAt, AVal.cells, List.set_cons_zero, List.set_cons_succ, Nat.zero_add, Nat.reduceAdd]
    simp (decide := true) only [aOps_nil, vOps_nil, fOps_nil, kOps_nil, ev, absV, absS, putD, Slots.put, Slots.get, Slots.keep, if_true, if_false, List.contains_cons, List.contains_nil, true_and, and_true, ↓ap_assign, pop_assign, rd_ne', ne_eq, not_false_eq_true, ne_0q1_0q0, ne_0q1_0q0.symm, rd_any, AVal.cells, setAt, List.set_cons_zero, List.set_cons_succ, cellsAt, List.getD_cons_zero, List.getD_cons_succ, Nat.zero_add, Nat.reduceAdd, lv_bool, lv_int, lv_str, lv_nilPtr, lv_ptr, lv_nilSlice, lv_slice, lv_nilFunc, lv_func, lv_nilIface, lv_iface, lv_nilMap, lv_agg, lv_tuple, allLive, Bool.and_true, decA]
    repeat (with_reducible refine And.intro ?_ ?_; · first | trivial | omega | (intro hg; simp only [Bool.and_eq_true, Bool.or_eq_true, Bool.not_eq_true', Bool.and_eq_false_iff, Bool.or_eq_false_iff, Bool.not_eq_false', decide_eq_true_eq, decide_eq_false_iff_not, eqNil] at hg; omega) )
    apply hK; clear hK K
    refine awp_ret ?_
    try simp only [thenA_ret, inBlockA_ret]
    refine retA_ret h (by repeat (first | exact Sub.refl _ | assumption | refine Sub.trans_set ?_ (by assumption))) (?_) ?_
    · simp (decide := true) only [resPre, resV_tmp, resV_cell, aOps_nil, ev, Slots.get, if_true, if_false, and_true, true_and, AHeap.set_same, resV_tmp, resV_cell, pLoad_agg ag32 sz32, rd_set, cellsAt, List.getD_cons_zero, List.getD_cons_succ, Nat.zero_add, Nat.reduceAdd, setAt, List.set_cons_zero, List.set_cons_succ, AVal.cells, lv_bool, lv_int, lv_str, lv_nilPtr, lv_ptr, lv_nilSlice, lv_slice, lv_nilFunc, lv_func, lv_nilIface, lv_iface, lv_nilMap, lv_agg, lv_tuple, allLive, Bool.and_true, Bool.true_and, rd_any, rd_ne', ne_eq, not_false_eq_true, ne_0q1_0q0, ne_0q1_0q0.symm, rd_any, AVal.cells, setAt, List.set_cons_zero, List.set_cons_succ, cellsAt, List.getD_cons_zero, List.getD_cons_succ, Nat.zero_add, Nat.reduceAdd, lv_bool, lv_int, lv_str, lv_nilPtr, lv_ptr, lv_nilSlice, lv_slice, lv_nilFunc, lv_func, lv_nilIface, lv_iface, lv_nilMap, lv_agg, lv_tuple, allLive, Bool.and_true, decA]
    
    simp (decide := true) only [aOps_nil, vOps_nil, fOps_nil, kOps_nil, ev, absV, absS, putD, Slots.put, Slots.get, Slots.keep, if_true, if_false, List.contains_cons, List.contains_nil, true_and, and_true, resOfG_two, resV_tmp, resV_cell, pLoad_agg ag32 sz32, rd_set, cellsAt, List.getD_cons_zero, List.getD_cons_succ, Nat.zero_add, Nat.reduceAdd, setAt, List.set_cons_zero, List.set_cons_succ, AVal.cells, lv_bool, lv_int, lv_str, lv_nilPtr, lv_ptr, lv_nilSlice, lv_slice, lv_nilFunc, lv_func, lv_nilIface, lv_iface, lv_nilMap, lv_agg, lv_tuple, allLive, Bool.and_true, Bool.true_and, rd_any, rd_ne', ne_eq, not_false_eq_true, ne_0q1_0q0, ne_0q1_0q0.symm, rd_any, AVal.cells, setAt, List.set_cons_zero, List.set_cons_succ, cellsAt, List.getD_cons_zero, List.getD_cons_succ, Nat.zero_add, Nat.reduceAdd, lv_bool, lv_int, lv_str, lv_nilPtr, lv_ptr, lv_nilSlice, lv_slice, lv_nilFunc, lv_func, lv_nilIface, lv_iface, lv_nilMap, lv_agg, lv_tuple, allLive, Bool.and_true, decA]
    rw [lowE, if_pos hb1]
    rfl
  · try simp only [decide_eq_true_eq, decide_eq_false_iff_not, Bool.not_eq_true', Bool.not_eq_false', Bool.and_eq_true, Bool.and_eq_false_iff, Bool.or_eq_true, Bool.or_eq_false_iff, Bool.true_eq, Bool.false_eq, reduceCtorEq] at hb1
    obtain ⟨hv, gg0, gg1, hs0, hs1⟩ := chkR_0 (by simpa using hb1)
    obtain ⟨sd, dd, _, _⟩ := Small_of_check hv
    obtain ⟨pl1, pl2, pl3⟩ := placesE_len d g s sd hs0 hs1 gg0 gg1
    refine awp_skip ?_
    change Awp _ _ _ _ _ _ _
    -- region 4  roundings.go:147
    refine awp_rseq [1, 2, 3, 6, 9, 10] (by rfl) fun K hK => ?_
    simp (decide := true) only [aOps_nil, vOps_nil, fOps_nil, kOps_nil, ev, absV, absS, putD, Slots.put, Slots.get, Slots.keep, if_true, if_false, List.contains_cons, List.contains_nil, true_and, and_true, ↓ap_loadL, apL_mk, pLoad_agg ag32 sz32, ↓ap_move, pop_move, rd_ne', ne_eq, not_false_eq_true, ne_0q1_0q0, ne_0q1_0q0.symm, rd_any, AVal.cells, setAt, List.set_cons_zero, List.set_cons_succ, cellsAt, List.getD_cons_zero, List.getD_cons_succ, Nat.zero_add, Nat.reduceAdd, lv_bool, lv_int, lv_str, lv_nilPtr, lv_ptr, lv_nilSlice, lv_slice, lv_nilFunc, lv_func, lv_nilIface, lv_iface, lv_nilMap, lv_agg, lv_tuple, allLive, Bool.and_true, decA]
    repeat (with_reducible refine And.intro ?_ ?_; · first | trivial | omega | (intro hg; simp only [Bool.and_eq_true, Bool.or_eq_true, Bool.not_eq_true', Bool.and_eq_false_iff, Bool.or_eq_false_iff, Bool.not_eq_false', decide_eq_true_eq, decide_eq_false_iff_not, eqNil] at hg; omega) )
    refine aOps_callV (V := .tuple [.str (placesE d g s).1, .bool (placesE d g s).2]) (by rfl) (by rfl) (c_places w₀ _ d g s sd hs0 hs1 gg0 gg1) ?_
    simp (decide := true) only [aOps_nil, vOps_nil, fOps_nil, kOps_nil, ev, absV, absS, putD, Slots.put, Slots.get, Slots.keep, if_true, if_false, List.contains_cons, List.contains_nil, true_and, and_true, ↓ap_move, pop_move, ↓ap_extract, pop_extract, pExt_tuple, List.length_cons, List.length_nil, List.getD_cons_zero, List.getD_cons_succ, ↓ap_assign, pop_assign, rd_ne', ne_eq, not_false_eq_true, ne_0q1_0q0, ne_0q1_0q0.symm, rd_any, AVal.cells, setAt, List.set_cons_zero, List.set_cons_succ, cellsAt, List.getD_cons_zero, List.getD_cons_succ, Nat.zero_add, Nat.reduceAdd, lv_bool, lv_int, lv_str, lv_nilPtr, lv_ptr, lv_nilSlice, lv_slice, lv_nilFunc, lv_func, lv_nilIface, lv_iface, lv_nilMap, lv_agg, lv_tuple, allLive, Bool.and_true, decA]
    repeat (with_reducible refine And.intro ?_ ?_; · first | trivial | omega | (intro hg; simp only [Bool.and_eq_true, Bool.or_eq_true, Bool.not_eq_true', Bool.and_eq_false_iff, Bool.or_eq_false_iff, Bool.not_eq_false', decide_eq_true_eq, decide_eq_false_iff_not, eqNil] at hg; omega) )
    apply hK; clear hK K
    refine awp_seq ?_
    -- region 5  roundings.go:148
    refine awp_rseq [1, 2, 3, 6, 9, 27] (by rfl) fun K hK => ?_
    simp (decide := true) only [aOps_nil, vOps_nil, fOps_nil, kOps_nil, ev, absV, absS, putD, Slots.put, Slots.get, Slots.keep, if_true, if_false, List.contains_cons, List.contains_nil, true_and, and_true, ↓ap_move, pop_move, ↓ap_unOp, pop_unOp, pU_not, rd_ne', ne_eq, not_false_eq_true, ne_0q1_0q0, ne_0q1_0q0.symm, rd_any, AVal.cells, setAt, List.set_cons_zero, List.set_cons_succ, cellsAt, List.getD_cons_zero, List.getD_cons_succ, Nat.zero_add, Nat.reduceAdd, lv_bool, lv_int, lv_str, lv_nilPtr, lv_ptr, lv_nilSlice, lv_slice, lv_nilFunc, lv_func, lv_nilIface, lv_iface, lv_nilMap, lv_agg, lv_tuple, allLive, Bool.and_true, decA]
    try simp (disch := omega) only [wrap_i64, wrap_u8]
    repeat (with_reducible refine And.intro ?_ ?_; · first | trivial | omega | (intro hg; simp only [Bool.and_eq_true, Bool.or_eq_true, Bool.not_eq_true', Bool.and_eq_false_iff, Bool.or_eq_false_iff, Bool.not_eq_false', decide_eq_true_eq, decide_eq_false_iff_not, eqNil] at hg; omega) )
    apply hK; clear hK K
    refine awp_cond (b := _) rfl (fun hb2 => ?_) (fun hb2 => ?_)
    · try simp only [decide_eq_true_eq, decide_eq_false_iff_not, Bool.not_eq_true', Bool.not_eq_false', Bool.and_eq_true, Bool.and_eq_false_iff, Bool.or_eq_true, Bool.or_eq_false_iff, Bool.true_eq, Bool.false_eq, reduceCtorEq] at hb2
      -- region 6  roundings.go:149
      refine awp_rseq [6, 7] (by rfl) fun K hK => ?_
      simp (decide := true) only [aOps_nil, vOps_nil, fOps_nil, kOps_nil, ev, absV, absS, putD, Slots.put, Slots.get, Slots.keep, if_true, if_false, List.contains_cons, List.contains_nil, true_and, and_true, ↓ap_build, pop_build, ↓pop_buildL, bld32_, evP, List.map_cons, List.map_nil, Sc_slice, Sc_nilSlice, Sc_nilPtr, Sc_ptr, Sc_nilFunc, Sc_func, Sc_nilMap, rd_ne', ne_eq, not_false_eq_true, ne_0q1_0q0, ne_0q1_0q0.symm, rd_any, AVal.cells, setAt, List.set_cons_zero, List.set_cons_succ, cellsAt, List.getD_cons_zero, List.getD_cons_succ, Nat.zero_add, Nat.reduceAdd, lv_bool, lv_int, lv_str, lv_nilPtr, lv_ptr, lv_nilSlice, lv_slice, lv_nilFunc, lv_func, lv_nilIface, lv_iface, lv_nilMap, lv_agg, lv_tuple, allLive, Bool.and_true, decA]
      repeat (with_reducible refine And.intro ?_ ?_; · first | trivial | omega | (intro hg; simp only [Bool.and_eq_true, Bool.or_eq_true, Bool.not_eq_true', Bool.and_eq_false_iff, Bool.or_eq_false_iff, Bool.not_eq_false', decide_eq_true_eq, decide_eq_false_iff_not, eqNil] at hg; omega) )
      refine aOps_store (by rfl) (by rfl) (by repeat (first | exact AHeap.set_same _ _ _ | assumption | refine (AHeap.set_ne _ _ (by first | assumption | exact Ne.symm (by assumption))).trans ?_)) sz32 (by rfl) (by rfl) (by first | exact Nat.le_refl _ | decide | (simp; done) | (simp; omega)) (Nat.zero_le _) (by rfl) ?_
      simp only [AHeap.set_set, setAt, AVal.cells, List.set_cons_zero, List.set_cons_succ, Nat.zero_add, Nat.reduceAdd]
      simp (decide := true) only [aOps_nil, vOps_nil, fOps_nil, kOps_nil, ev, absV, absS, putD, Slots.put, Slots.get, Slots.keep, if_true, if_false, List.contains_cons, List.contains_nil, true_and, and_true, ↓ap_assign, pop_assign, rd_ne', ne_eq, not_false_eq_true, ne_0q1_0q0, ne_0q1_0q0.symm, rd_any, AVal.cells, setAt, List.set_cons_zero, List.set_cons_succ, cellsAt, List.getD_cons_zero, List.getD_cons_succ, Nat.zero_add, Nat.reduceAdd, lv_bool, lv_int, lv_str, lv_nilPtr, lv_ptr, lv_nilSlice, lv_slice, lv_nilFunc, lv_func, lv_nilIface, lv_iface, lv_nilMap, lv_agg, lv_tuple, allLive, Bool.and_true, decA]
      repeat (with_reducible refine And.intro ?_ ?_; · first | trivial | omega | (intro hg; simp only [Bool.and_eq_true, Bool.or_eq_true, Bool.not_eq_true', Bool.and_eq_false_iff, Bool.or_eq_false_iff, Bool.not_eq_false', decide_eq_true_eq, decide_eq_false_iff_not, eqNil] at hg; omega) )
      apply hK; clear hK K
      refine awp_ret ?_
      try simp only [thenA_ret, inBlockA_ret]
      refine retA_ret h (by repeat (first | exact Sub.refl _ | assumption | refine Sub.trans_set ?_ (by assumption))) (?_) ?_
      · simp (decide := true) only [resPre, resV_tmp, resV_cell, aOps_nil, ev, Slots.get, if_true, if_false, and_true, true_and, AHeap.set_same, resV_tmp, resV_cell, pLoad_agg ag32 sz32, rd_set, cellsAt, List.getD_cons_zero, List.getD_cons_succ, Nat.zero_add, Nat.reduceAdd, setAt, List.set_cons_zero, List.set_cons_succ, AVal.cells, lv_bool, lv_int, lv_str, lv_nilPtr, lv_ptr, lv_nilSlice, lv_slice, lv_nilFunc, lv_func, lv_nilIface, lv_iface, lv_nilMap, lv_agg, lv_tuple, allLive, Bool.and_true, Bool.true_and, rd_any, rd_ne', ne_eq, not_false_eq_true, ne_0q1_0q0, ne_0q1_0q0.symm, rd_any, AVal.cells, setAt, List.set_cons_zero, List.set_cons_succ, cellsAt, List.getD_cons_zero, List.getD_cons_succ, Nat.zero_add, Nat.reduceAdd, lv_bool, lv_int, lv_str, lv_nilPtr, lv_ptr, lv_nilSlice, lv_slice, lv_nilFunc, lv_func, lv_nilIface, lv_iface, lv_nilMap, lv_agg, lv_tuple, allLive, Bool.and_true, decA]
      
      simp (decide := true) only [aOps_nil, vOps_nil, fOps_nil, kOps_nil, ev, absV, absS, putD, Slots.put, Slots.get, Slots.keep, if_true, if_false, List.contains_cons, List.contains_nil, true_and, and_true, resOfG_two, resV_tmp, resV_cell, pLoad_agg ag32 sz32, rd_set, cellsAt, List.getD_cons_zero, List.getD_cons_succ, Nat.zero_add, Nat.reduceAdd, setAt, List.set_cons_zero, List.set_cons_succ, AVal.cells, lv_bool, lv_int, lv_str, lv_nilPtr, lv_ptr, lv_nilSlice, lv_slice, lv_nilFunc, lv_func, lv_nilIface, lv_iface, lv_nilMap, lv_agg, lv_tuple, allLive, Bool.and_true, Bool.true_and, rd_any, rd_ne', ne_eq, not_false_eq_true, ne_0q1_0q0, ne_0q1_0q0.symm, rd_any, AVal.cells, setAt, List.set_cons_zero, List.set_cons_succ, cellsAt, List.getD_cons_zero, List.getD_cons_succ, Nat.zero_add, Nat.reduceAdd, lv_bool, lv_int, lv_str, lv_nilPtr, lv_ptr, lv_nilSlice, lv_slice, lv_nilFunc, lv_func, lv_nilIface, lv_iface, lv_nilMap, lv_agg, lv_tuple, allLive, Bool.and_true, decA]
      rw [lowE, if_neg (by omega), if_pos hb2]
      rfl
    · try simp only [decide_eq_true_eq, decide_eq_false_iff_not, Bool.not_eq_true', Bool.not_eq_false', Bool.and_eq_true, Bool.and_eq_false_iff, Bool.or_eq_true, Bool.or_eq_false_iff, Bool.true_eq, Bool.false_eq, reduceCtorEq] at hb2
      have pl4 := pl2 (by simpa using hb2)
      have htk : List.take ((placesE d g s).1.length - (((placesE d g s).1.length : Int) - g).toNat) (List.drop (((placesE d g s).1.length : Int) - g).toNat (placesE d g s).1) = List.drop (((placesE d g s).1.length : Int) - g).toNat (placesE d g s).1 := List.take_of_length_le (by simp)
      refine awp_skip ?_
      change Awp _ _ _ _ _ _ _
      -- region 7  roundings.go:151
      refine awp_dseq_anyT 12 [6, 7] mixed (by kernel_rfl) (by rfl) fun K hK => ?_
      simp only [List.take_succ_cons, List.take_zero, List.drop_succ_cons, List.drop_zero]
      simp (decide := true) only [aOps_nil, vOps_nil, fOps_nil, kOps_nil, ev, absV, absS, putD, Slots.put, Slots.get, Slots.keep, if_true, if_false, List.contains_cons, List.contains_nil, true_and, and_true, ↓vp_fieldAddr, pop_fieldAddr, fa32_0, ↓vp_load, pop_load, pLoad_one ag4, ↓vp_move, pop_move, ↓vp_len, pop_len, pLen_str Tryd.underlying9, ↓vp_binOp, pop_binOp, isNilC_tmp, cond_false, pBinX_int, pI_sub, ↓vp_slice, pop_slice, evO, pSliceS_00 Tryd.underlying9, pSliceS_0i Tryd.underlying9, pSliceS_i0 Tryd.underlying9, pSliceS_ii Tryd.underlying9, pSliceS, bndA_none, bndA_int, rd_ne', ne_eq, not_false_eq_true, ne_0q1_0q0, ne_0q1_0q0.symm, rd_any, AVal.cells, setAt, List.set_cons_zero, List.set_cons_succ, cellsAt, List.getD_cons_zero, List.getD_cons_succ, Nat.zero_add, Nat.reduceAdd, lv_bool, lv_int, lv_str, lv_nilPtr, lv_ptr, lv_nilSlice, lv_slice, lv_nilFunc, lv_func, lv_nilIface, lv_iface, lv_nilMap, lv_agg, lv_tuple, allLive, Bool.and_true, decA]
      try simp (disch := omega) only [wrap_i64, wrap_u8]
      repeat (with_reducible refine And.intro ?_ ?_; · first | trivial | omega | (intro hg; simp only [Bool.and_eq_true, Bool.or_eq_true, Bool.not_eq_true', Bool.and_eq_false_iff, Bool.or_eq_false_iff, Bool.not_eq_false', decide_eq_true_eq, decide_eq_false_iff_not, eqNil] at hg; omega) )
      simp only [Int.toNat_natCast, htk]
      refine vOps_callV (V := .tuple [decA (newE d.neg ((placesE d g s).1.drop (((placesE d g s).1.length : Int) - g).toNat) s).1, .int .i64 (newE d.neg ((placesE d g s).1.drop (((placesE d g s).1.length : Int) - g).toNat) s).2]) (by rfl) (by rfl) (c_New w₀ _ d.neg _ s (by simp; omega)) ?_
      simp (decide := true) only [aOps_nil, vOps_nil, fOps_nil, kOps_nil, ev, absV, absS, putD, Slots.put, Slots.get, Slots.keep, if_true, if_false, List.contains_cons, List.contains_nil, true_and, and_true, ↓vp_extract, pop_extract, pExt_tuple, List.length_cons, List.length_nil, List.getD_cons_zero, List.getD_cons_succ, rd_ne', ne_eq, not_false_eq_true, ne_0q1_0q0, ne_0q1_0q0.symm, rd_any, AVal.cells, setAt, List.set_cons_zero, List.set_cons_succ, cellsAt, List.getD_cons_zero, List.getD_cons_succ, Nat.zero_add, Nat.reduceAdd, lv_bool, lv_int, lv_str, lv_nilPtr, lv_ptr, lv_nilSlice, lv_slice, lv_nilFunc, lv_func, lv_nilIface, lv_iface, lv_nilMap, lv_agg, lv_tuple, allLive, Bool.and_true, decA]
      repeat (with_reducible refine And.intro ?_ ?_; · first | trivial | omega | (intro hg; simp only [Bool.and_eq_true, Bool.or_eq_true, Bool.not_eq_true', Bool.and_eq_false_iff, Bool.or_eq_false_iff, Bool.not_eq_false', decide_eq_true_eq, decide_eq_false_iff_not, eqNil] at hg; omega) )
      try simp only [vOps_nil, fOps_nil]
      refine aOps_store (by rfl) (by rfl) (by repeat (first | exact AHeap.set_same _ _ _ | assumption | refine (AHeap.set_ne _ _ (by first | assumption | exact Ne.symm (by assumption))).trans ?_)) sz32 (by rfl) (by rfl) (by first | exact Nat.le_refl _ | decide | (simp; done) | (simp; omega)) (Nat.zero_le _) (by rfl) ?_
      simp only [AHeap.set_set, setAt, AVal.cells, List.set_cons_zero, List.set_cons_succ, Nat.zero_add, Nat.reduceAdd]
      simp (decide := true) only [aOps_nil, vOps_nil, fOps_nil, kOps_nil, ev, absV, absS, putD, Slots.put, Slots.get, Slots.keep, if_true, if_false, List.contains_cons, List.contains_nil, true_and, and_true, ↓ap_assign, pop_assign, rd_ne', ne_eq, not_false_eq_true, ne_0q1_0q0, ne_0q1_0q0.symm, rd_any, AVal.cells, setAt, List.set_cons_zero, List.set_cons_succ, cellsAt, List.getD_cons_zero, List.getD_cons_succ, Nat.zero_add, Nat.reduceAdd, lv_bool, lv_int, lv_str, lv_nilPtr, lv_ptr, lv_nilSlice, lv_slice, lv_nilFunc, lv_func, lv_nilIface, lv_iface, lv_nilMap, lv_agg, lv_tuple, allLive, Bool.and_true, decA]
      repeat (with_reducible refine And.intro ?_ ?_; · first | trivial | omega | (intro hg; simp only [Bool.and_eq_true, Bool.or_eq_true, Bool.not_eq_true', Bool.and_eq_false_iff, Bool.or_eq_false_iff, Bool.not_eq_false', decide_eq_true_eq, decide_eq_false_iff_not, eqNil] at hg; omega) )
      apply hK; clear hK K
      refine awp_ret ?_
      try simp only [thenA_ret, inBlockA_ret]
      refine retA_ret h (by repeat (first | exact Sub.refl _ | assumption | refine Sub.trans_set ?_ (by assumption))) (?_) ?_
      · simp (decide := true) only [resPre, resV_tmp, resV_cell, aOps_nil, ev, Slots.get, if_true, if_false, and_true, true_and, AHeap.set_same, resV_tmp, resV_cell, pLoad_agg ag32 sz32, rd_set, cellsAt, List.getD_cons_zero, List.getD_cons_succ, Nat.zero_add, Nat.reduceAdd, setAt, List.set_cons_zero, List.set_cons_succ, AVal.cells, lv_bool, lv_int, lv_str, lv_nilPtr, lv_ptr, lv_nilSlice, lv_slice, lv_nilFunc, lv_func, lv_nilIface, lv_iface, lv_nilMap, lv_agg, lv_tuple, allLive, Bool.and_true, Bool.true_and, rd_any, rd_ne', ne_eq, not_false_eq_true, ne_0q1_0q0, ne_0q1_0q0.symm, rd_any, AVal.cells, setAt, List.set_cons_zero, List.set_cons_succ, cellsAt, List.getD_cons_zero, List.getD_cons_succ, Nat.zero_add, Nat.reduceAdd, lv_bool, lv_int, lv_str, lv_nilPtr, lv_ptr, lv_nilSlice, lv_slice, lv_nilFunc, lv_func, lv_nilIface, lv_iface, lv_nilMap, lv_agg, lv_tuple, allLive, Bool.and_true, decA]
      
      simp (decide := true) only [aOps_nil, vOps_nil, fOps_nil, kOps_nil, ev, absV, absS, putD, Slots.put, Slots.get, Slots.keep, if_true, if_false, List.contains_cons, List.contains_nil, true_and, and_true, resOfG_two, resV_tmp, resV_cell, pLoad_agg ag32 sz32, rd_set, cellsAt, List.getD_cons_zero, List.getD_cons_succ, Nat.zero_add, Nat.reduceAdd, setAt, List.set_cons_zero, List.set_cons_succ, AVal.cells, lv_bool, lv_int, lv_str, lv_nilPtr, lv_ptr, lv_nilSlice, lv_slice, lv_nilFunc, lv_func, lv_nilIface, lv_iface, lv_nilMap, lv_agg, lv_tuple, allLive, Bool.and_true, Bool.true_and, rd_any, rd_ne', ne_eq, not_false_eq_true, ne_0q1_0q0, ne_0q1_0q0.symm, rd_any, AVal.cells, setAt, List.set_cons_zero, List.set_cons_succ, cellsAt, List.getD_cons_zero, List.getD_cons_succ, Nat.zero_add, Nat.reduceAdd, lv_bool, lv_int, lv_str, lv_nilPtr, lv_ptr, lv_nilSlice, lv_slice, lv_nilFunc, lv_func, lv_nilIface, lv_iface, lv_nilMap, lv_agg, lv_tuple, allLive, Bool.and_true, decA]
      rw [lowE, if_neg (by omega), if_neg (by simp [hb2])]

def digitsE (d : D) (g s : Int) : List UInt8 × Int :=
  if (fitsE d g s).2 ≠ 0 then ([], (fitsE d g s).2)
  else if (fitsE d g s).1 = false then ([], 14)
  else ((placesE d g s).1.drop (((placesE d g s).1.length : Int) - g).toNat, 0)

theorem c_Digits (w₀ : World) (h : AHeap) (d : D) (g s : Int) (hl : d.dig.length ≤ 9223372036854775807) (g0 : -9223372036854775808 ≤ g) (g1 : g ≤ 9223372036854775807) :
    ACall Tryd.prog w₀ 12 [decA d, .int .i64 g, .int .i64 s] h (fun v h' => v = .tuple [.str (digitsE d g s).1, .int .i64 (digitsE d g s).2] ∧ h' = h) := by
  refine acall_intro (n := 39) (rs := [.tmp 6, .tmp 7]) Tryd.func12 rfl rfl rfl rfl (Nat.le_of_ble_eq_true rfl) ?_
  simp only [initSlots]
  -- region 0  roundings.go:155
  refine awp_rseq [1, 2, 3] (by rfl) fun K hK => ?_
  refine aOps_box (by rfl) (by rfl) (by rfl) fun k0q0 hk0q0 => ?_
  try have hf_0q0 : h k0q0 = none := by first | assumption | (simp only [AHeap.set_none] at hk0q0; simp only [hk0q0])
  skip
  simp (decide := true) only [aOps_nil, vOps_nil, fOps_nil, kOps_nil, ev, absV, absS, putD, Slots.put, Slots.get, Slots.keep, if_true, if_false, List.contains_cons, List.contains_nil, true_and, and_true, ↓ap_assign, pop_assign, rd_ne', ne_eq, not_false_eq_true, rd_any, AVal.cells, setAt, List.set_cons_zero, List.set_cons_succ, cellsAt, List.getD_cons_zero, List.getD_cons_succ, Nat.zero_add, Nat.reduceAdd, lv_bool, lv_int, lv_str, lv_nilPtr, lv_ptr, lv_nilSlice, lv_slice, lv_nilFunc, lv_func, lv_nilIface, lv_iface, lv_nilMap, lv_agg, lv_tuple, allLive, Bool.and_true, decA]
  repeat (with_reducible refine And.intro ?_ ?_; · first | trivial | omega | (intro hg; simp only [Bool.and_eq_true, Bool.or_eq_true, Bool.not_eq_true', Bool.and_eq_false_iff, Bool.or_eq_false_iff, Bool.not_eq_false', decide_eq_true_eq, decide_eq_false_iff_not, eqNil] at hg; omega) )
  apply hK; clear hK K
  -- region 1  roundings.go:156
  refine awp_rseq [1, 2, 3, 8, 9] (by rfl) fun K hK => ?_
  simp (decide := true) only [aOps_nil, vOps_nil, fOps_nil, kOps_nil, ev, absV, absS, putD, Slots.put, Slots.get, Slots.keep, if_true, if_false, List.contains_cons, List.contains_nil, true_and, and_true, ↓ap_loadL, apL_mk, pLoad_agg ag32 sz32, ↓ap_move, pop_move, rd_ne', ne_eq, not_false_eq_true, rd_any, AVal.cells, setAt, List.set_cons_zero, List.set_cons_succ, cellsAt, List.getD_cons_zero, List.getD_cons_succ, Nat.zero_add, Nat.reduceAdd, lv_bool, lv_int, lv_str, lv_nilPtr, lv_ptr, lv_nilSlice, lv_slice, lv_nilFunc, lv_func, lv_nilIface, lv_iface, lv_nilMap, lv_agg, lv_tuple, allLive, Bool.and_true, decA]
  repeat (with_reducible refine And.intro ?_ ?_; · first | trivial | omega | (intro hg; simp only [Bool.and_eq_true, Bool.or_eq_true, Bool.not_eq_true', Bool.and_eq_false_iff, Bool.or_eq_false_iff, Bool.not_eq_false', decide_eq_true_eq, decide_eq_false_iff_not, eqNil] at hg; omega) )
  refine aOps_callV (V := .tuple [.bool (fitsE d g s).1, .int .i64 (fitsE d g s).2]) (by rfl) (by rfl) (c_Fits w₀ _ d g s hl g0 g1) ?_
  simp (decide := true) only [aOps_nil, vOps_nil, fOps_nil, kOps_nil, ev, absV, absS, putD, Slots.put, Slots.get, Slots.keep, if_true, if_false, List.contains_cons, List.contains_nil, true_and, and_true, ↓ap_move, pop_move, ↓ap_extract, pop_extract, pExt_tuple, List.length_cons, List.length_nil, List.getD_cons_zero, List.getD_cons_succ, ↓ap_assign, pop_assign, rd_ne', ne_eq, not_false_eq_true, rd_any, AVal.cells, setAt, List.set_cons_zero, List.set_cons_succ, cellsAt, List.getD_cons_zero, List.getD_cons_succ, Nat.zero_add, Nat.reduceAdd, lv_bool, lv_int, lv_str, lv_nilPtr, lv_ptr, lv_nilSlice, lv_slice, lv_nilFunc, lv_func, lv_nilIface, lv_iface, lv_nilMap, lv_agg, lv_tuple, allLive, Bool.and_true, decA]
  repeat (with_reducible refine And.intro ?_ ?_; · first | trivial | omega | (intro hg; simp only [Bool.and_eq_true, Bool.or_eq_true, Bool.not_eq_true', Bool.and_eq_false_iff, Bool.or_eq_false_iff, Bool.not_eq_false', decide_eq_true_eq, decide_eq_false_iff_not, eqNil] at hg; omega) )
  apply hK; clear hK K
  refine awp_seq ?_
  refine awp_block ?_
  -- region 2  roundings.go:158
  refine awp_rseq [1, 2, 3, 8, 9, 19] (by rfl) fun K hK => ?_
  simp (decide := true) only [aOps_nil, vOps_nil, fOps_nil, kOps_nil, ev, absV, absS, putD, Slots.put, Slots.get, Slots.keep, if_true, if_false, List.contains_cons, List.contains_nil, true_and, and_true, ↓ap_move, pop_move, ↓ap_binOp, pop_binOp, isNilC_int, cond_false, pBinX_int, pI_neq, ↓ap_assign, pop_assign, rd_ne', ne_eq, not_false_eq_true, rd_any, AVal.cells, setAt, List.set_cons_zero, List.set_cons_succ, cellsAt, List.getD_cons_zero, List.getD_cons_succ, Nat.zero_add, Nat.reduceAdd, lv_bool, lv_int, lv_str, lv_nilPtr, lv_ptr, lv_nilSlice, lv_slice, lv_nilFunc, lv_func, lv_nilIface, lv_iface, lv_nilMap, lv_agg, lv_tuple, allLive, Bool.and_true, decA]
  repeat (with_reducible refine And.intro ?_ ?_; · first | trivial | omega | (intro hg; simp only [Bool.and_eq_true, Bool.or_eq_true, Bool.not_eq_true', Bool.and_eq_false_iff, Bool.or_eq_false_iff, Bool.not_eq_false', decide_eq_true_eq, decide_eq_false_iff_not, eqNil] at hg; omega) )
  apply hK; clear hK K
  refine awp_cond (b := _) rfl (fun hb1 => ?_) (fun hb1 => ?_)
  · try simp only [decide_eq_true_eq, decide_eq_false_iff_not, Bool.not_eq_true', Bool.not_eq_false', Bool.and_eq_true, Bool.and_eq_false_iff, Bool.or_eq_true, Bool.or_eq_false_iff, Bool.true_eq, Bool.false_eq, reduceCtorEq] at hb1
    -- region 3  roundings.go:159
    refine awp_rseq [6, 7] (by rfl) fun K hK => ?_
    simp (decide := true) only [aOps_nil, vOps_nil, fOps_nil, kOps_nil, ev, absV, absS, putD, Slots.put, Slots.get, Slots.keep, if_true, if_false, List.contains_cons, List.contains_nil, true_and, and_true, ↓ap_move, pop_move, ↓ap_assign, pop_assign, rd_ne', ne_eq, not_false_eq_true, rd_any, AVal.cells, setAt, List.set_cons_zero, List.set_cons_succ, cellsAt, List.getD_cons_zero, List.getD_cons_succ, Nat.zero_add, Nat.reduceAdd, lv_bool, lv_int, lv_str, lv_nilPtr, lv_ptr, lv_nilSlice, lv_slice, lv_nilFunc, lv_func, lv_nilIface, lv_iface, lv_nilMap, lv_agg, lv_tuple, allLive, Bool.and_true, decA]
    repeat (with_reducible refine And.intro ?_ ?_; · first | trivial | omega | (intro hg; simp only [Bool.and_eq_true, Bool.or_eq_true, Bool.not_eq_true', Bool.and_eq_false_iff, Bool.or_eq_false_iff, Bool.not_eq_false', decide_eq_true_eq, decide_eq_false_iff_not, eqNil] at hg; omega) )
    apply hK; clear hK K
    refine awp_ret ?_
    try simp only [thenA_ret, inBlockA_ret]
    refine retA_ret h (by repeat (first | exact Sub.refl _ | assumption | refine Sub.trans_set ?_ (by assumption))) (resPre_tmp (resPre_tmp (resPre_nil))) ?_
    simp (decide := true) only [aOps_nil, vOps_nil, fOps_nil, kOps_nil, ev, absV, absS, putD, Slots.put, Slots.get, Slots.keep, if_true, if_false, List.contains_cons, List.contains_nil, true_and, and_true, resOf_two, rd_ne', ne_eq, not_false_eq_true, rd_any, AVal.cells, setAt, List.set_cons_zero, List.set_cons_succ, cellsAt, List.getD_cons_zero, List.getD_cons_succ, Nat.zero_add, Nat.reduceAdd, lv_bool, lv_int, lv_str, lv_nilPtr, lv_ptr, lv_nilSlice, lv_slice, lv_nilFunc, lv_func, lv_nilIface, lv_iface, lv_nilMap, lv_agg, lv_tuple, allLive, Bool.and_true, decA]
    rw [digitsE, if_pos hb1]
  · try simp only [decide_eq_true_eq, decide_eq_false_iff_not, Bool.not_eq_true', Bool.not_eq_false', Bool.and_eq_true, Bool.and_eq_false_iff, Bool.or_eq_true, Bool.or_eq_false_iff, Bool.true_eq, Bool.false_eq, reduceCtorEq] at hb1
    -- region 4  roundings.go:160
    refine awp_rseq [1, 2, 3, 23] (by rfl) fun K hK => ?_
    simp (decide := true) only [aOps_nil, vOps_nil, fOps_nil, kOps_nil, ev, absV, absS, putD, Slots.put, Slots.get, Slots.keep, if_true, if_false, List.contains_cons, List.contains_nil, true_and, and_true, ↓ap_move, pop_move, ↓ap_unOp, pop_unOp, pU_not, ↓ap_assign, pop_assign, rd_ne', ne_eq, not_false_eq_true, rd_any, AVal.cells, setAt, List.set_cons_zero, List.set_cons_succ, cellsAt, List.getD_cons_zero, List.getD_cons_succ, Nat.zero_add, Nat.reduceAdd, lv_bool, lv_int, lv_str, lv_nilPtr, lv_ptr, lv_nilSlice, lv_slice, lv_nilFunc, lv_func, lv_nilIface, lv_iface, lv_nilMap, lv_agg, lv_tuple, allLive, Bool.and_true, decA]
    try simp (disch := omega) only [wrap_i64, wrap_u8]
    repeat (with_reducible refine And.intro ?_ ?_; · first | trivial | omega | (intro hg; simp only [Bool.and_eq_true, Bool.or_eq_true, Bool.not_eq_true', Bool.and_eq_false_iff, Bool.or_eq_false_iff, Bool.not_eq_false', decide_eq_true_eq, decide_eq_false_iff_not, eqNil] at hg; omega) )
    apply hK; clear hK K
    refine awp_cond (b := _) rfl (fun hb2 => ?_) (fun hb2 => ?_)
    · try simp only [decide_eq_true_eq, decide_eq_false_iff_not, Bool.not_eq_true', Bool.not_eq_false', Bool.and_eq_true, Bool.and_eq_false_iff, Bool.or_eq_true, Bool.or_eq_false_iff, Bool.true_eq, Bool.false_eq, reduceCtorEq] at hb2
      -- region 5  roundings.go:161
      refine awp_rseq [6, 7] (by rfl) fun K hK => ?_
      simp (decide := true) only [aOps_nil, vOps_nil, fOps_nil, kOps_nil, ev, absV, absS, putD, Slots.put, Slots.get, Slots.keep, if_true, if_false, List.contains_cons, List.contains_nil, true_and, and_true, ↓ap_assign, pop_assign, rd_ne', ne_eq, not_false_eq_true, rd_any, AVal.cells, setAt, List.set_cons_zero, List.set_cons_succ, cellsAt, List.getD_cons_zero, List.getD_cons_succ, Nat.zero_add, Nat.reduceAdd, lv_bool, lv_int, lv_str, lv_nilPtr, lv_ptr, lv_nilSlice, lv_slice, lv_nilFunc, lv_func, lv_nilIface, lv_iface, lv_nilMap, lv_agg, lv_tuple, allLive, Bool.and_true, decA]
      repeat (with_reducible refine And.intro ?_ ?_; · first | trivial | omega | (intro hg; simp only [Bool.and_eq_true, Bool.or_eq_true, Bool.not_eq_true', Bool.and_eq_false_iff, Bool.or_eq_false_iff, Bool.not_eq_false', decide_eq_true_eq, decide_eq_false_iff_not, eqNil] at hg; omega) )
      apply hK; clear hK K
      refine awp_ret ?_
      try simp only [thenA_ret, inBlockA_ret]
      refine retA_ret h (by repeat (first | exact Sub.refl _ | assumption | refine Sub.trans_set ?_ (by assumption))) (resPre_tmp (resPre_tmp (resPre_nil))) ?_
      simp (decide := true) only [aOps_nil, vOps_nil, fOps_nil, kOps_nil, ev, absV, absS, putD, Slots.put, Slots.get, Slots.keep, if_true, if_false, List.contains_cons, List.contains_nil, true_and, and_true, resOf_two, rd_ne', ne_eq, not_false_eq_true, rd_any, AVal.cells, setAt, List.set_cons_zero, List.set_cons_succ, cellsAt, List.getD_cons_zero, List.getD_cons_succ, Nat.zero_add, Nat.reduceAdd, lv_bool, lv_int, lv_str, lv_nilPtr, lv_ptr, lv_nilSlice, lv_slice, lv_nilFunc, lv_func, lv_nilIface, lv_iface, lv_nilMap, lv_agg, lv_tuple, allLive, Bool.and_true, decA]
      rw [digitsE, if_neg (by omega), if_pos hb2]
    · try simp only [decide_eq_true_eq, decide_eq_false_iff_not, Bool.not_eq_true', Bool.not_eq_false', Bool.and_eq_true, Bool.and_eq_false_iff, Bool.or_eq_true, Bool.or_eq_false_iff, Bool.true_eq, Bool.false_eq, reduceCtorEq] at hb2
      have hck : chkR d g s = 0 := by
        refine Classical.byContradiction fun e => ?_
        rw [fitsE, if_pos e] at hb1
        exact e hb1
      obtain ⟨hv, gg0, gg1, hs0, hs1⟩ := chkR_0 hck
      obtain ⟨sd, dd, _, _⟩ := Small_of_check hv
      obtain ⟨pl1, pl2, pl3⟩ := placesE_len d g s sd hs0 hs1 gg0 gg1
      have pl4 := pl2 (by
        have e := hb2
        rw [fitsE, if_neg (by omega)] at e
        simp only [Bool.and_eq_true] at e
        exact e.1)
      have htk : List.take ((placesE d g s).1.length - (((placesE d g s).1.length : Int) - g).toNat) (List.drop (((placesE d g s).1.length : Int) - g).toNat (placesE d g s).1) = List.drop (((placesE d g s).1.length : Int) - g).toNat (placesE d g s).1 := List.take_of_length_le (by simp)
      refine awp_skip ?_
      change Awp _ _ _ _ _ _ _
      -- region 6  roundings.go:163
      refine awp_rseq [1, 10] (by rfl) fun K hK => ?_
      simp (decide := true) only [aOps_nil, vOps_nil, fOps_nil, kOps_nil, ev, absV, absS, putD, Slots.put, Slots.get, Slots.keep, if_true, if_false, List.contains_cons, List.contains_nil, true_and, and_true, ↓ap_loadL, apL_mk, pLoad_agg ag32 sz32, ↓ap_move, pop_move, rd_ne', ne_eq, not_false_eq_true, rd_any, AVal.cells, setAt, List.set_cons_zero, List.set_cons_succ, cellsAt, List.getD_cons_zero, List.getD_cons_succ, Nat.zero_add, Nat.reduceAdd, lv_bool, lv_int, lv_str, lv_nilPtr, lv_ptr, lv_nilSlice, lv_slice, lv_nilFunc, lv_func, lv_nilIface, lv_iface, lv_nilMap, lv_agg, lv_tuple, allLive, Bool.and_true, decA]
      repeat (with_reducible refine And.intro ?_ ?_; · first | trivial | omega | (intro hg; simp only [Bool.and_eq_true, Bool.or_eq_true, Bool.not_eq_true', Bool.and_eq_false_iff, Bool.or_eq_false_iff, Bool.not_eq_false', decide_eq_true_eq, decide_eq_false_iff_not, eqNil] at hg; omega) )
      refine aOps_callV (V := .tuple [.str (placesE d g s).1, .bool (placesE d g s).2]) (by rfl) (by rfl) (c_places w₀ _ d g s sd hs0 hs1 gg0 gg1) ?_
      simp (decide := true) only [aOps_nil, vOps_nil, fOps_nil, kOps_nil, ev, absV, absS, putD, Slots.put, Slots.get, Slots.keep, if_true, if_false, List.contains_cons, List.contains_nil, true_and, and_true, ↓ap_move, pop_move, ↓ap_extract, pop_extract, pExt_tuple, List.length_cons, List.length_nil, List.getD_cons_zero, List.getD_cons_succ, ↓ap_assign, pop_assign, rd_ne', ne_eq, not_false_eq_true, rd_any, AVal.cells, setAt, List.set_cons_zero, List.set_cons_succ, cellsAt, List.getD_cons_zero, List.getD_cons_succ, Nat.zero_add, Nat.reduceAdd, lv_bool, lv_int, lv_str, lv_nilPtr, lv_ptr, lv_nilSlice, lv_slice, lv_nilFunc, lv_func, lv_nilIface, lv_iface, lv_nilMap, lv_agg, lv_tuple, allLive, Bool.and_true, decA]
      repeat (with_reducible refine And.intro ?_ ?_; · first | trivial | omega | (intro hg; simp only [Bool.and_eq_true, Bool.or_eq_true, Bool.not_eq_true', Bool.and_eq_false_iff, Bool.or_eq_false_iff, Bool.not_eq_false', decide_eq_true_eq, decide_eq_false_iff_not, eqNil] at hg; omega) )
      apply hK; clear hK K
      -- region 7  roundings.go:164
      refine awp_rseq [6, 7] (by rfl) fun K hK => ?_
      simp (decide := true) only [aOps_nil, vOps_nil, fOps_nil, kOps_nil, ev, absV, absS, putD, Slots.put, Slots.get, Slots.keep, if_true, if_false, List.contains_cons, List.contains_nil, true_and, and_true, ↓ap_move, pop_move, ↓ap_len, pop_len, pLen_str Tryd.underlying9, ↓ap_binOp, pop_binOp, isNilC_tmp, cond_false, pBinX_int, pI_sub, rd_ne', ne_eq, not_false_eq_true, rd_any, AVal.cells, setAt, List.set_cons_zero, List.set_cons_succ, cellsAt, List.getD_cons_zero, List.getD_cons_succ, Nat.zero_add, Nat.reduceAdd, lv_bool, lv_int, lv_str, lv_nilPtr, lv_ptr, lv_nilSlice, lv_slice, lv_nilFunc, lv_func, lv_nilIface, lv_iface, lv_nilMap, lv_agg, lv_tuple, allLive, Bool.and_true, decA]
      try simp (disch := omega) only [wrap_i64, wrap_u8]
      try simp (decide := true) only [aOps_nil, vOps_nil, fOps_nil, kOps_nil, ev, absV, absS, putD, Slots.put, Slots.get, Slots.keep, if_true, if_false, List.contains_cons, List.contains_nil, true_and, and_true, ↓ap_slice, pop_slice, evO, pSliceS_00 Tryd.underlying9, pSliceS_0i Tryd.underlying9, pSliceS_i0 Tryd.underlying9, pSliceS_ii Tryd.underlying9, pSliceS, bndA_none, bndA_int, ↓ap_assign, pop_assign, rd_ne', ne_eq, not_false_eq_true, rd_any, AVal.cells, setAt, List.set_cons_zero, List.set_cons_succ, cellsAt, List.getD_cons_zero, List.getD_cons_succ, Nat.zero_add, Nat.reduceAdd, lv_bool, lv_int, lv_str, lv_nilPtr, lv_ptr, lv_nilSlice, lv_slice, lv_nilFunc, lv_func, lv_nilIface, lv_iface, lv_nilMap, lv_agg, lv_tuple, allLive, Bool.and_true, decA]
      repeat (with_reducible refine And.intro ?_ ?_; · first | trivial | omega | (intro hg; simp only [Bool.and_eq_true, Bool.or_eq_true, Bool.not_eq_true', Bool.and_eq_false_iff, Bool.or_eq_false_iff, Bool.not_eq_false', decide_eq_true_eq, decide_eq_false_iff_not, eqNil] at hg; omega) )
      apply hK; clear hK K
      refine awp_ret ?_
      try simp only [thenA_ret, inBlockA_ret]
      refine retA_ret h (by repeat (first | exact Sub.refl _ | assumption | refine Sub.trans_set ?_ (by assumption))) (resPre_tmp (resPre_tmp (resPre_nil))) ?_
      simp (decide := true) only [aOps_nil, vOps_nil, fOps_nil, kOps_nil, ev, absV, absS, putD, Slots.put, Slots.get, Slots.keep, if_true, if_false, List.contains_cons, List.contains_nil, true_and, and_true, resOf_two, rd_ne', ne_eq, not_false_eq_true, rd_any, AVal.cells, setAt, List.set_cons_zero, List.set_cons_succ, cellsAt, List.getD_cons_zero, List.getD_cons_succ, Nat.zero_add, Nat.reduceAdd, lv_bool, lv_int, lv_str, lv_nilPtr, lv_ptr, lv_nilSlice, lv_slice, lv_nilFunc, lv_func, lv_nilIface, lv_iface, lv_nilMap, lv_agg, lv_tuple, allLive, Bool.and_true, decA]
      try simp only [Int.toNat_natCast, htk]
      rw [digitsE, if_neg (by omega), if_neg (by simp [hb2])]
end Go.Proofs.YteagjfcmhmmljaaDoor

/-
  Contracts of the statements' functions: a grid, a number from an integer, a power of ten, neighbors.
  Conditions: none.
-/
namespace Go.Proofs.YteagjfcmhmmljaaDoor
open Go.AM
open Go.Proofs
open Go.Dec
open Go.Lib (decDigits)
set_option maxRecDepth 100000

theorem c_of13 (w₀ : World) (ht : Tab10 w₀) (h : AHeap) (n s : Int) (h0 : -1000000 ≤ n) (h1 : n ≤ 1000000) (s0 : 0 ≤ s) (s1 : s ≤ 1000) :
    ACall Tryd.prog w₀ 8 [.int .i64 n, .int .i64 s] h (fun v h' => v = decA (canon (decide (n < 0)) n.natAbs s.toNat) ∧ h' = h) := by
  refine acall_intro (n := 14) (rs := [.cell 4 32]) Tryd.func8 rfl rfl rfl rfl (Nat.le_of_ble_eq_true rfl) ?_
  simp only [initSlots]
  -- region 0  law.go:14
  refine awp_rseq [0, 1, 4] (by rfl) fun K hK => ?_
  refine aOps_alloc ze32 (cs := [.bool false, .str [], .int .i64 0]) (by rfl) fun k0q0 hk0q0 => ?_
  try have hf_0q0 : h k0q0 = none := by first | assumption | (simp only [AHeap.set_none] at hk0q0; simp only [hk0q0])
  simp (decide := true) only [aOps_nil, vOps_nil, fOps_nil, kOps_nil, ev, absV, absS, putD, Slots.put, Slots.get, Slots.keep, if_true, if_false, List.contains_cons, List.contains_nil, true_and, and_true, rd_ne', ne_eq, not_false_eq_true, rd_any, AVal.cells, setAt, List.set_cons_zero, List.set_cons_succ, cellsAt, List.getD_cons_zero, List.getD_cons_succ, Nat.zero_add, Nat.reduceAdd, lv_bool, lv_int, lv_str, lv_nilPtr, lv_ptr, lv_nilSlice, lv_slice, lv_nilFunc, lv_func, lv_nilIface, lv_iface, lv_nilMap, lv_agg, lv_tuple, allLive, Bool.and_true, decA]
  repeat (with_reducible refine And.intro ?_ ?_; · first | trivial | omega | (intro hg; simp only [Bool.and_eq_true, Bool.or_eq_true, Bool.not_eq_true', Bool.and_eq_false_iff, Bool.or_eq_false_iff, Bool.not_eq_false', decide_eq_true_eq, decide_eq_false_iff_not, eqNil] at hg; omega) )
  apply hK; clear hK K
  -- region 1  law.go:15
  refine awp_rseq [4] (by rfl) fun K hK => ?_
  simp (decide := true) only [aOps_nil, vOps_nil, fOps_nil, kOps_nil, ev, absV, absS, putD, Slots.put, Slots.get, Slots.keep, if_true, if_false, List.contains_cons, List.contains_nil, true_and, and_true, ↓ap_move, pop_move, ↓ap_binOp, pop_binOp, isNilC_int, cond_false, pBinX_int, pI_lss, ↓ap_unOp, pop_unOp, pU_neg, ↓ap_max, pop_max, pMax_int, evs, List.map_cons, List.map_nil, rd_ne', ne_eq, not_false_eq_true, rd_any, AVal.cells, setAt, List.set_cons_zero, List.set_cons_succ, cellsAt, List.getD_cons_zero, List.getD_cons_succ, Nat.zero_add, Nat.reduceAdd, lv_bool, lv_int, lv_str, lv_nilPtr, lv_ptr, lv_nilSlice, lv_slice, lv_nilFunc, lv_func, lv_nilIface, lv_iface, lv_nilMap, lv_agg, lv_tuple, allLive, Bool.and_true, decA]
  try simp (disch := omega) only [wrap_i64, wrap_u8]
  repeat (with_reducible refine And.intro ?_ ?_; · first | trivial | omega | (intro hg; simp only [Bool.and_eq_true, Bool.or_eq_true, Bool.not_eq_true', Bool.and_eq_false_iff, Bool.or_eq_false_iff, Bool.not_eq_false', decide_eq_true_eq, decide_eq_false_iff_not, eqNil] at hg; omega) )
  refine aOps_callV (V := .str (decDigits n.natAbs)) (by rfl) (by rfl) ((c_itoa w₀ ht _ (max n (0 - n)) (by omega) (by omega)).val (by rw [Lib.itoa, if_neg (by omega)]; congr 2; omega)) ?_
  simp (decide := true) only [aOps_nil, vOps_nil, fOps_nil, kOps_nil, ev, absV, absS, putD, Slots.put, Slots.get, Slots.keep, if_true, if_false, List.contains_cons, List.contains_nil, true_and, and_true, ↓ap_move, pop_move, rd_ne', ne_eq, not_false_eq_true, rd_any, AVal.cells, setAt, List.set_cons_zero, List.set_cons_succ, cellsAt, List.getD_cons_zero, List.getD_cons_succ, Nat.zero_add, Nat.reduceAdd, lv_bool, lv_int, lv_str, lv_nilPtr, lv_ptr, lv_nilSlice, lv_slice, lv_nilFunc, lv_func, lv_nilIface, lv_iface, lv_nilMap, lv_agg, lv_tuple, allLive, Bool.and_true, decA]
  repeat (with_reducible refine And.intro ?_ ?_; · first | trivial | omega | (intro hg; simp only [Bool.and_eq_true, Bool.or_eq_true, Bool.not_eq_true', Bool.and_eq_false_iff, Bool.or_eq_false_iff, Bool.not_eq_false', decide_eq_true_eq, decide_eq_false_iff_not, eqNil] at hg; omega) )
  refine aOps_callV (V := decA (canon (decide (n < 0)) n.natAbs s.toNat)) (by rfl) (by rfl) ((c_Normal w₀ _ _ _ _ (decDigits_all _) (Nat.le_trans ((decDigits_lt (show 0 < 9 by omega)).2 (by omega)) (by omega)) s0 (by omega)).val (by rw [natOf_decDigits])) ?_
  refine aOps_store (by rfl) (by rfl) (by repeat (first | exact AHeap.set_same _ _ _ | assumption | refine (AHeap.set_ne _ _ (by first | assumption | exact Ne.symm (by assumption))).trans ?_)) sz32 (by rfl) (by rfl) (by first | exact Nat.le_refl _ | decide | (simp; done) | (simp; omega)) (Nat.zero_le _) (by rfl) ?_
  simp only [AHeap.set_set, setAt, AVal.cells, List.set_cons_zero, List.set_cons_succ, Nat.zero_add, Nat.reduceAdd]
  simp (decide := true) only [aOps_nil, vOps_nil, fOps_nil, kOps_nil, ev, absV, absS, putD, Slots.put, Slots.get, Slots.keep, if_true, if_false, List.contains_cons, List.contains_nil, true_and, and_true, rd_ne', ne_eq, not_false_eq_true, rd_any, AVal.cells, setAt, List.set_cons_zero, List.set_cons_succ, cellsAt, List.getD_cons_zero, List.getD_cons_succ, Nat.zero_add, Nat.reduceAdd, lv_bool, lv_int, lv_str, lv_nilPtr, lv_ptr, lv_nilSlice, lv_slice, lv_nilFunc, lv_func, lv_nilIface, lv_iface, lv_nilMap, lv_agg, lv_tuple, allLive, Bool.and_true, decA]
  repeat (with_reducible refine And.intro ?_ ?_; · first | trivial | omega | (intro hg; simp only [Bool.and_eq_true, Bool.or_eq_true, Bool.not_eq_true', Bool.and_eq_false_iff, Bool.or_eq_false_iff, Bool.not_eq_false', decide_eq_true_eq, decide_eq_false_iff_not, eqNil] at hg; omega) )
  apply hK; clear hK K
  refine awp_ret ?_
  try simp only [thenA_ret, inBlockA_ret]
  refine retA_ret h (by repeat (first | exact Sub.refl _ | assumption | refine Sub.trans_set ?_ (by assumption))) (?_) ?_
  · simp (decide := true) only [resPre, resV_tmp, resV_cell, aOps_nil, ev, Slots.get, if_true, if_false, and_true, true_and, AHeap.set_same, resV_tmp, resV_cell, pLoad_agg ag32 sz32, rd_set, cellsAt, List.getD_cons_zero, List.getD_cons_succ, Nat.zero_add, Nat.reduceAdd, setAt, List.set_cons_zero, List.set_cons_succ, AVal.cells, lv_bool, lv_int, lv_str, lv_nilPtr, lv_ptr, lv_nilSlice, lv_slice, lv_nilFunc, lv_func, lv_nilIface, lv_iface, lv_nilMap, lv_agg, lv_tuple, allLive, Bool.and_true, Bool.true_and, rd_any, rd_ne', ne_eq, not_false_eq_true, rd_any, AVal.cells, setAt, List.set_cons_zero, List.set_cons_succ, cellsAt, List.getD_cons_zero, List.getD_cons_succ, Nat.zero_add, Nat.reduceAdd, lv_bool, lv_int, lv_str, lv_nilPtr, lv_ptr, lv_nilSlice, lv_slice, lv_nilFunc, lv_func, lv_nilIface, lv_iface, lv_nilMap, lv_agg, lv_tuple, allLive, Bool.and_true, decA]
  
  simp (decide := true) only [aOps_nil, vOps_nil, fOps_nil, kOps_nil, ev, absV, absS, putD, Slots.put, Slots.get, Slots.keep, if_true, if_false, List.contains_cons, List.contains_nil, true_and, and_true, resOfG_one, resV_tmp, resV_cell, pLoad_agg ag32 sz32, rd_set, cellsAt, List.getD_cons_zero, List.getD_cons_succ, Nat.zero_add, Nat.reduceAdd, setAt, List.set_cons_zero, List.set_cons_succ, AVal.cells, lv_bool, lv_int, lv_str, lv_nilPtr, lv_ptr, lv_nilSlice, lv_slice, lv_nilFunc, lv_func, lv_nilIface, lv_iface, lv_nilMap, lv_agg, lv_tuple, allLive, Bool.and_true, Bool.true_and, rd_any, rd_ne', ne_eq, not_false_eq_true, rd_any, AVal.cells, setAt, List.set_cons_zero, List.set_cons_succ, cellsAt, List.getD_cons_zero, List.getD_cons_succ, Nat.zero_add, Nat.reduceAdd, lv_bool, lv_int, lv_str, lv_nilPtr, lv_ptr, lv_nilSlice, lv_slice, lv_nilFunc, lv_func, lv_nilIface, lv_iface, lv_nilMap, lv_agg, lv_tuple, allLive, Bool.and_true, decA]
  all_goals first | rfl | exact ⟨rfl, rfl⟩ | (simp (decide := true) only [if_true, if_false, *]; done) | (trace_state; fail)

end Go.Proofs.YteagjfcmhmmljaaDoor

/-
  Contract: neighbors of the statements.
  Conditions: none.
-/
namespace Go.Proofs.YteagjfcmhmmljaaDoor
open Go.AM
open Go.Proofs
open Go.Dec
open Go.Lib (decDigits)
set_option maxRecDepth 100000

def lostN (d : D) (s : Int) : Nat := natOf d.dig % 10 ^ (d.scale - s).toNat
def wholeN (d : D) (s : Int) : Nat := natOf d.dig / 10 ^ (d.scale - s).toNat
/-- The number of m steps of a grid. -/
def stepsD (neg : Bool) (m : Nat) (s : Int) : D := canon neg (m * 10 ^ (-s).toNat) s.toNat
def lostB (d : D) (s : Int) : Bool := decide (s < d.scale) && !decide (lostN d s = 0)
def nearE (d : D) (s : Int) : D := if lostB d s = true then stepsD d.neg (wholeN d s) s else d
def farE (d : D) (s : Int) : D := if lostB d s = true then stepsD d.neg (wholeN d s + 1) s else d
end Go.Proofs.YteagjfcmhmmljaaDoor

/-
  Contract: chosen of the statements.
  Conditions: none.
-/
namespace Go.Proofs.YteagjfcmhmmljaaDoor
open Go.AM
open Go.Proofs
open Go.Dec
open Go.Lib (decDigits)
set_option maxRecDepth 100000

/-- What is lost against half a step: the sign of it. -/
def halfN (d : D) (s : Int) : Int := if 2 * lostN d s < 10 ^ (d.scale - s).toNat then -1 else if 2 * lostN d s = 10 ^ (d.scale - s).toNat then 0 else 1
def outE (d near : D) (s m : Int) : Bool :=
  if m = 1 then decide (0 ≤ halfN d s)
  else if m = 2 then decide (0 < halfN d s) || (decide (halfN d s = 0) && oddE near s)
  else if m = 3 then decide (0 < halfN d s)
  else if m = 4 then true
  else if m = 5 then !d.neg
  else if m = 6 then d.neg
  else false
def chosenE (d : D) (s m : Int) : D := if lostB d s = false then d else if outE d (nearE d s) s m = true then farE d s else nearE d s

theorem half_first (b : UInt8) (r : List UInt8) (hb : dg b = true) (hr : r.all dg = true) : (b.toNat < 53 → 2 * natOf (b :: r) < 10 ^ (b :: r).length) ∧ (53 < b.toNat → 10 ^ (b :: r).length < 2 * natOf (b :: r)) ∧
    (b.toNat = 53 → natOf r ≠ 0 → 10 ^ (b :: r).length < 2 * natOf (b :: r)) ∧ (b.toNat = 53 → natOf r = 0 → 2 * natOf (b :: r) = 10 ^ (b :: r).length) := by
  have h1 := natOf_lt r hr
  have h2 := (dg_iff b).1 hb
  rw [natOf_cons, List.length_cons, Nat.pow_succ]
  have e : dv b = b.toNat - 48 := rfl
  have hp : 0 < 10 ^ r.length := Nat.pow_pos (by omega)
  generalize 10 ^ r.length = T at *
  refine ⟨fun h => ?_, fun h => ?_, fun h h' => ?_, fun h h' => ?_⟩
  · have : dv b * T ≤ 4 * T := Nat.mul_le_mul_right _ (by omega)
    omega
  · have : 6 * T ≤ dv b * T := Nat.mul_le_mul_right _ (by omega)
    omega
  · have : dv b = 5 := by omega
    rw [this]; omega
  · have : dv b = 5 := by omega
    rw [this]; omega
theorem cons_of (l : List UInt8) (hl : l ≠ []) : l = l.getD 0 0 :: l.drop 1 := by
  cases l with
  | nil => exact absurd rfl hl
  | cons a r => rfl
theorem canon_bound (neg : Bool) (n k L : Nat) (hL : 0 < L) (hn : n < 10 ^ L) : (canon neg n k).dig.length ≤ L ∧ (canon neg n k).scale ≤ k := by
  unfold canon
  split
  · exact ⟨by show 1 ≤ L; omega, by show (0 : Int) ≤ k; omega⟩
  · obtain ⟨h1, h2⟩ := strip_val k n
    refine ⟨(decDigits_lt hL).2 (Nat.lt_of_le_of_lt ?_ hn), by simp only; omega⟩
    have h3 : 10 ^ (strip n k).2 ≤ 10 ^ k := Nat.pow_le_pow_right (by omega) h2
    have h4 : (strip n k).1 * 10 ^ k ≤ n * 10 ^ k := by rw [h1]; exact Nat.mul_le_mul_left _ h3
    exact Nat.le_of_mul_le_mul_right h4 (Nat.pow_pos (by omega))
end Go.Proofs.YteagjfcmhmmljaaDoor

/-
  What the package roundings computes, as numbers.
  Conditions: none.
-/
namespace Go.Proofs.YteagjfcmhmmljaaDoor
open Go.AM
open Go.Proofs
open Go.Dec
open Go.Lib (decDigits)
set_option maxRecDepth 100000

theorem natOf_canon (neg : Bool) (n k : Nat) : natOf (canon neg n k).dig = (if n = 0 then 0 else (strip n k).1) ∧ (canon neg n k).scale = (if n = 0 then (0 : Int) else ((strip n k).2 : Int)) ∧ (canon neg n k).neg = (if n = 0 then false else neg) := by
  unfold canon
  split
  · exact ⟨rfl, rfl, rfl⟩
  · exact ⟨natOf_decDigits _, rfl, rfl⟩
/-- The number that a number in normal form is, at a scale that is not less. -/
theorem canon_at (neg : Bool) (n k : Nat) : natOf (canon neg n k).dig * 10 ^ (k - (canon neg n k).scale.toNat) = n ∧ (canon neg n k).scale.toNat ≤ k := by
  obtain ⟨h1, h2, _⟩ := natOf_canon neg n k
  by_cases hn : n = 0
  · rw [h1, h2, if_pos hn, if_pos hn, hn]
    exact ⟨Nat.zero_mul _, Nat.zero_le _⟩
  · rw [h1, h2, if_neg hn, if_neg hn, Int.toNat_natCast]
    obtain ⟨s1, s2⟩ := strip_val k n
    refine ⟨?_, s2⟩
    have hp : 0 < 10 ^ (strip n k).2 := Nat.pow_pos (by omega)
    refine Nat.eq_of_mul_eq_mul_right hp ?_
    rw [Nat.mul_assoc, ← Nat.pow_add, Nat.sub_add_cancel s2, s1]
theorem canon_self (neg : Bool) (n k : Nat) : canon (canon neg n k).neg (natOf (canon neg n k).dig) (canon neg n k).scale.toNat = canon neg n k := by
  obtain ⟨h1, h2, h3⟩ := natOf_canon neg n k
  by_cases hn : n = 0
  · subst hn; rfl
  · rw [h1, h2, h3, if_neg hn, if_neg hn, if_neg hn, Int.toNat_natCast]
    have hs : strip (strip n k).1 (strip n k).2 = ((strip n k).1, (strip n k).2) := strip_done (strip_end k n)
    unfold canon
    rw [if_neg (strip_pos k n hn), if_neg hn, hs]
theorem canon_ne (neg : Bool) (n k : Nat) : (canon neg n k).dig ≠ [] := by
  unfold canon
  split
  · simp [zeroD]
  · exact decDigits_ne _
theorem check_canon (neg : Bool) (n k : Nat) (h : long (canon neg n k) ≤ 62) : checkE (canon neg n k) = 0 := by
  have h0 := canon_scale neg n k
  unfold long at h
  unfold checkE
  rw [if_pos]
  refine ⟨?_, by omega, h0, by omega, ?_⟩
  · unfold numB
    rw [canon_all, Bool.and_true, decide_eq_false (canon_ne neg n k)]
    rfl
  · rw [normE, show (-(canon neg n k).scale).toNat = 0 by omega, Nat.pow_zero, Nat.mul_one, canon_self, resE_ok (by unfold long; omega)]
theorem val_canon {d : D} (h : checkE d = 0) : d = canon d.neg (natOf d.dig) d.scale.toNat ∧ long d ≤ 62 := by
  obtain ⟨sd, _, _, hn⟩ := Small_of_check h
  have ha1 := sd.l
  have ha2 := sd.s0
  have ha3 := sd.s1
  have hl : long d ≤ 62 := by unfold long; omega
  rw [normE, show (-d.scale).toNat = 0 by omega, Nat.pow_zero, Nat.mul_one] at hn
  unfold resE at hn
  split at hn
  · cases hn
  · exact ⟨(Prod.mk.inj hn).1.symm, hl⟩
theorem long_canon (neg : Bool) (n k : Nat) (hn : n < 10 ^ 62) (hk : k ≤ 62) : long (canon neg n k) ≤ 62 := by
  obtain ⟨c1, c2⟩ := canon_bound neg n k 62 (by omega) hn
  unfold long
  omega
theorem canon_scaled (neg : Bool) (m : Nat) (s : Int) (k : Nat) (hk : s ≤ k) : canon neg (m * 10 ^ (k - s).toNat) k = stepsD neg m s := by
  unfold stepsD
  rcases Int.le_total 0 s with c | c
  · rw [show (-s).toNat = 0 by omega, Nat.pow_zero, Nat.mul_one]
    have := canon_mul neg ((k : Int) - s).toNat m s.toNat
    rw [show s.toNat + ((k : Int) - s).toNat = k by omega] at this
    exact this
  · rw [show s.toNat = 0 by omega]
    have := canon_mul neg k (m * 10 ^ (-s).toNat) 0
    rw [Nat.zero_add, Nat.mul_assoc, ← Nat.pow_add, show (-s).toNat + k = ((k : Int) - s).toNat by omega] at this
    exact this

theorem cutE_val {d : D} (h : checkE d = 0) (s : Int) : cutE d s = if lostB d s = true then (nearE d s, false, 0) else (d, true, 0) := by
  obtain ⟨hc, hl⟩ := val_canon h
  obtain ⟨sd, dd, _, hn⟩ := Small_of_check h
  have ha1 := sd.l
  have ha2 := sd.s0
  have ha3 := sd.s1
  have hlt := natOf_lt _ dd
  have hlt2 : natOf d.dig < 10 ^ 62 := Nat.lt_of_lt_of_le hlt (Nat.pow_le_pow_right (by omega) ha1)
  unfold cutE
  rw [if_pos h]
  by_cases c : d.scale ≤ s
  · rw [if_pos c, if_neg]
    unfold lostB
    rw [decide_eq_false (by omega)]
    simp
  · rw [if_neg c]
    have hN : normE d.neg (natOf d.dig / 10 ^ (d.scale - s).toNat * 10 ^ (d.scale - s).toNat) d.scale = (stepsD d.neg (wholeN d s) s, 0) := by
      rw [normE, show (-d.scale).toNat = 0 by omega, Nat.pow_zero, Nat.mul_one]
      have e := canon_scaled d.neg (wholeN d s) s d.scale.toNat (by omega)
      rw [show ((d.scale.toNat : Nat) : Int) = d.scale by omega, wholeN] at e
      have hb := long_canon d.neg (natOf d.dig / 10 ^ (d.scale - s).toNat * 10 ^ (d.scale - s).toNat) d.scale.toNat (Nat.lt_of_le_of_lt (Nat.div_mul_le_self _ _) hlt2) (by omega)
      rw [resE_ok (by omega), e]
      rfl
    rw [hN]
    by_cases z : lostN d s = 0
    · have hb : ¬ lostB d s = true := by unfold lostB; rw [z]; simp
      rw [if_neg hb]
      have e0 : natOf d.dig / 10 ^ (d.scale - s).toNat * 10 ^ (d.scale - s).toNat = natOf d.dig := Nat.div_mul_cancel (Nat.dvd_of_mod_eq_zero z)
      rw [e0, hn] at hN
      rw [show natOf d.dig % 10 ^ (d.scale - s).toNat = 0 from z]
      rw [← hN]
      rfl
    · have hb : lostB d s = true := by unfold lostB; rw [decide_eq_true (by omega), decide_eq_false z]; rfl
      rw [if_pos hb, nearE, if_pos hb]
      rw [show decide (natOf d.dig % 10 ^ (d.scale - s).toNat = 0) = false from decide_eq_false z]

theorem half_val {d : D} (dd : d.dig.all dg = true) (s : Int) (hs : s < d.scale) : halfE d s = halfN d s := by
  have hlt := natOf_lt _ dd
  unfold halfE halfN
  by_cases c : (d.dig.length : Int) < d.scale - s
  · rw [if_pos c, if_pos]
    have e : d.dig.length + 1 ≤ (d.scale - s).toNat := by omega
    have e1 : 10 ^ (d.dig.length + 1) ≤ 10 ^ (d.scale - s).toNat := Nat.pow_le_pow_right (by omega) e
    rw [Nat.pow_succ] at e1
    have : lostN d s ≤ natOf d.dig := Nat.mod_le _ _
    omega
  · rw [if_neg c]
    have hm : (d.scale - s).toNat ≤ d.dig.length := by omega
    obtain ⟨_, sp2⟩ := natOf_split d.dig dd _ hm
    obtain ⟨l, hl⟩ : ∃ l, l = d.dig.drop (d.dig.length - (d.scale - s).toNat) := ⟨_, rfl⟩
    rw [← hl] at sp2 ⊢
    have hll : l.length = (d.scale - s).toNat := by rw [hl]; simp; omega
    have la : l.all dg = true := by
      rw [List.all_eq_true] at dd ⊢
      exact fun b hb => dd b (List.mem_of_mem_drop (hl ▸ hb))
    have lne : l ≠ [] := fun e => by rw [e] at hll; simp at hll; omega
    have e := cons_of l lne
    have la' := la
    rw [e] at la'
    simp only [List.all_cons, Bool.and_eq_true] at la'
    obtain ⟨q1, q2, q3, q4⟩ := half_first _ _ la'.1 la'.2
    rw [← e, sp2, hll] at q1 q2 q3 q4
    have hz : (List.drop 1 l).all (· == 48) = true ↔ natOf (l.drop 1) = 0 := by
      rw [natOf_zero_iff _ la'.2, List.all_eq_true]
      simp
    unfold halfL
    rw [show natOf d.dig % 10 ^ (d.scale - s).toNat = lostN d s from rfl] at q1 q2 q3 q4
    by_cases c1 : (l.getD 0 0).toNat < 53
    · rw [if_pos c1, if_pos (q1 c1)]
    · rw [if_neg c1]
      by_cases c2 : 53 < (l.getD 0 0).toNat
      · have := q2 c2
        rw [if_pos (.inl c2), if_neg (by omega), if_neg (by omega)]
      · have c3 : (l.getD 0 0).toNat = 53 := by omega
        by_cases c4 : natOf (l.drop 1) = 0
        · have := q4 c3 c4
          rw [if_neg (by rintro (x | x); exact c2 x; exact x (hz.2 c4)), if_neg (by omega), if_pos this]
        · have := q3 c3 c4
          rw [if_pos (.inr fun x => c4 (hz.1 x)), if_neg (by omega), if_neg (by omega)]

theorem away_out {d near : D} (dd : d.dig.all dg = true) (s m : Int) (hs : s < d.scale) : awayE d near s m = outE d near s m := by
  unfold awayE outE
  rw [half_val dd s hs]
  by_cases c1 : m = 1
  · subst c1; simp
  · by_cases c2 : m = 2
    · subst c2
      by_cases c : halfN d s = 0
      · simp [c]
      · simp [c]
    · rw [if_neg c1, if_neg c2, if_neg c2, if_neg c1]

/-- Addition, at a scale that is not less than either's. -/
theorem alV_at {a b : D} (sa : Small a) (sb : Small b) (K : Nat) (ha : a.scale ≤ K) (hb : b.scale ≤ K) : alV a b * 10 ^ (K - (alS a b).toNat) = natOf a.dig * 10 ^ (K - a.scale.toNat) ∧ (alS a b).toNat ≤ K ∧ 0 ≤ alS a b := by
  have h1 := sa.s0
  have h2 := sb.s0
  have hS : alS a b = max a.scale b.scale := rfl
  refine ⟨?_, by omega, by omega⟩
  rw [alV, Nat.mul_assoc, ← Nat.pow_add]
  congr 2
  omega
theorem norm_at (neg : Bool) (n : Nat) (S : Int) (K : Nat) (h0 : 0 ≤ S) (hK : S.toNat ≤ K) : normE neg n S = resE (canon neg (n * 10 ^ (K - S.toNat)) K) := by
  rw [normE, show (-S).toNat = 0 by omega, Nat.pow_zero, Nat.mul_one]
  have := canon_mul neg (K - S.toNat) n S.toNat
  rw [show S.toNat + (K - S.toNat) = K by omega] at this
  rw [this]
theorem add_at {a b : D} (ca : checkE a = 0) (cb : checkE b = 0) (K : Nat) (ha : a.scale ≤ K) (hb : b.scale ≤ K) :
    addE a b = if a.neg = b.neg then resE (canon a.neg (natOf a.dig * 10 ^ (K - a.scale.toNat) + natOf b.dig * 10 ^ (K - b.scale.toNat)) K)
      else if natOf b.dig * 10 ^ (K - b.scale.toNat) ≤ natOf a.dig * 10 ^ (K - a.scale.toNat) then resE (canon a.neg (natOf a.dig * 10 ^ (K - a.scale.toNat) - natOf b.dig * 10 ^ (K - b.scale.toNat)) K)
      else resE (canon b.neg (natOf b.dig * 10 ^ (K - b.scale.toNat) - natOf a.dig * 10 ^ (K - a.scale.toNat)) K) := by
  obtain ⟨sa, _, _, _⟩ := Small_of_check ca
  obtain ⟨sb, _, _, _⟩ := Small_of_check cb
  obtain ⟨e1, e2, e3⟩ := alV_at sa sb K ha hb
  obtain ⟨f1, _, _⟩ := alV_at sb sa K hb ha
  rw [alS_comm b a] at f1
  have hp : 0 < 10 ^ (K - (alS a b).toNat) := Nat.pow_pos (by omega)
  rw [addE, if_pos ⟨ca, cb⟩, norm_at _ _ _ K e3 e2, norm_at _ _ _ K e3 e2, norm_at _ _ _ K e3 e2, Nat.add_mul, Nat.sub_mul, Nat.sub_mul, e1, f1]
  by_cases c : alV b a ≤ alV a b
  · have : natOf b.dig * 10 ^ (K - b.scale.toNat) ≤ natOf a.dig * 10 ^ (K - a.scale.toNat) := by rw [← e1, ← f1]; exact Nat.mul_le_mul_right _ c
    rw [if_pos c, if_pos this]
  · have : ¬ natOf b.dig * 10 ^ (K - b.scale.toNat) ≤ natOf a.dig * 10 ^ (K - a.scale.toNat) := by
      rw [← e1, ← f1]
      exact fun h => c (Nat.le_of_mul_le_mul_right h hp)
    rw [if_neg c, if_neg this]
end Go.Proofs.YteagjfcmhmmljaaDoor

/-
  Round, as numbers; the examples.
  Conditions: none.
-/
namespace Go.Proofs.YteagjfcmhmmljaaDoor
open Go.AM
open Go.Proofs
open Go.Dec
open Go.Lib (decDigits)
set_option maxRecDepth 100000

theorem near_long {d : D} (h : checkE d = 0) (s : Int) : long (nearE d s) ≤ 62 ∧ checkE (nearE d s) = 0 := by
  have hc := cutE_val h s
  obtain ⟨hv, hl⟩ := val_canon h
  obtain ⟨sc, _⟩ := cutE_small h s
  by_cases hb : lostB d s = true
  · rw [if_pos hb] at hc
    rw [hc] at sc
    have hlong : long (nearE d s) ≤ 62 := by
      have h1 := sc.l
      have h2 := sc.s1
      unfold long
      simp only at h1 h2
      omega
    refine ⟨hlong, ?_⟩
    unfold nearE at hlong ⊢
    rw [if_pos hb] at hlong ⊢
    exact check_canon _ _ _ hlong
  · unfold nearE
    rw [if_neg hb]
    exact ⟨hl, h⟩

theorem steps_add (neg : Bool) (w : Nat) (s : Int) (hA : checkE (stepsD neg w s) = 0) (hB : checkE (stepsD neg 1 s) = 0) : addE (stepsD neg w s) (stepsD neg 1 s) = resE (stepsD neg (w + 1) s) := by
  have a0 := canon_scale neg (w * 10 ^ (-s).toNat) s.toNat
  have b0 := canon_scale neg (1 * 10 ^ (-s).toNat) s.toNat
  obtain ⟨a1, a2⟩ := canon_at neg (w * 10 ^ (-s).toNat) s.toNat
  obtain ⟨b1, b2⟩ := canon_at neg (1 * 10 ^ (-s).toNat) s.toNat
  obtain ⟨_, _, a3⟩ := natOf_canon neg (w * 10 ^ (-s).toNat) s.toNat
  obtain ⟨_, _, b3⟩ := natOf_canon neg (1 * 10 ^ (-s).toNat) s.toNat
  have hp : 0 < 10 ^ (-s).toNat := Nat.pow_pos (by omega)
  rw [if_neg (by omega)] at b3
  have e := add_at hA hB s.toNat (by unfold stepsD; omega) (by unfold stepsD; omega)
  rw [e]
  unfold stepsD at *
  rw [a1, b1, b3]
  by_cases hw : w = 0
  · subst hw
    simp only [Nat.zero_mul, Nat.zero_add, Nat.one_mul, if_true] at a3 ⊢
    rw [a3]
    cases neg with
    | false => rfl
    | true =>
      rw [if_neg (by decide), if_neg (by omega)]
      rfl
  · rw [if_neg (by
      have : 0 < w * 10 ^ (-s).toNat := Nat.mul_pos (by omega) hp
      omega)] at a3
    rw [a3, if_pos rfl, ← Nat.add_mul]

theorem long_steps {neg : Bool} {s : Int} (s1 : s ≤ 62) (h : 62 < long (stepsD neg 1 s)) (w : Nat) : 62 < long (stepsD neg (w + 1) s) := by
  unfold stepsD at *
  rcases Int.le_total 0 s with c | c
  · exfalso
    have := long_canon neg (1 * 10 ^ (-s).toNat) s.toNat (by rw [show (-s).toNat = 0 by omega]; decide) (by omega)
    omega
  · have hp : 0 < 10 ^ (-s).toNat := Nat.pow_pos (by omega)
    rw [show s.toNat = 0 by omega] at *
    rw [canon_big _ _ (by omega)] at h
    have hm : 10 ^ (-s).toNat ≤ (w + 1) * 10 ^ (-s).toNat := Nat.le_mul_of_pos_left _ (by omega)
    rw [canon_big _ _ (by omega)]
    unfold long at *
    simp only at *
    have h1 : ¬ (decDigits (1 * 10 ^ (-s).toNat)).length ≤ 62 := by omega
    rw [decDigits_lt (by omega)] at h1
    have h2 : ¬ (decDigits ((w + 1) * 10 ^ (-s).toNat)).length ≤ 62 := by
      rw [decDigits_lt (by omega)]
      omega
    omega

theorem roundE_val {d : D} (h : checkE d = 0) (s m : Int) (s0 : -62 ≤ s) (s1 : s ≤ 62) (m7 : m ≤ 7) :
    roundE d s m = if lostB d s = false then (d, 0) else if m = 7 then (noD, 14) else resE (chosenE d s m) := by
  obtain ⟨sd, dd, _, _⟩ := Small_of_check h
  have hk : chkR d 1 s = 0 := by rw [chkR, if_pos ⟨h, by omega, by omega, s0, s1⟩]
  have hc := cutE_val h s
  unfold roundE
  rw [if_neg (by rintro (e | e); exact e hk; omega)]
  cases hb : lostB d s with
  | false =>
    rw [hb] at hc
    have hc' : cutE d s = (d, true, 0) := hc.trans rfl
    rw [hc']
    rfl
  | true =>
    have hs : s < d.scale := by
      unfold lostB at hb
      simp only [Bool.and_eq_true, decide_eq_true_eq] at hb
      exact hb.1
    rw [hb] at hc
    have hc' : cutE d s = (nearE d s, false, 0) := hc.trans rfl
    rw [hc', if_neg (by simp), if_neg (show ¬ true = false by decide)]
    by_cases c7 : m = 7
    · rw [if_pos c7, if_pos c7]
    · rw [if_neg c7, if_neg c7]
      simp only
      obtain ⟨nl, nc⟩ := near_long h s
      rw [away_out dd s m hs]
      have hch : chosenE d s m = if outE d (nearE d s) s m = true then farE d s else nearE d s := by
        unfold chosenE
        rw [if_neg (by rw [hb]; decide)]
      rw [hch]
      cases ho : outE d (nearE d s) s m with
      | false =>
        rw [if_pos rfl, if_neg (by decide), resE_ok (by omega)]
      | true =>
        rw [if_neg (by decide), if_pos rfl]
        have hnew : newE d.neg [49] s = resE (stepsD d.neg 1 s) := by
          rw [newE, if_pos ⟨by decide, by decide, by omega, by omega⟩, normE, show natOf [49] = 1 from rfl]
          rfl
        have hfar : farE d s = stepsD d.neg (wholeN d s + 1) s := by rw [farE, if_pos hb]
        have hnear : nearE d s = stepsD d.neg (wholeN d s) s := by rw [nearE, if_pos hb]
        rw [hnew, hfar]
        by_cases hl : 62 < long (stepsD d.neg 1 s)
        · rw [resE_long hl, resE_long (long_steps s1 hl _), if_pos (by decide)]
        · rw [resE_ok hl, if_neg (by simp)]
          simp only
          rw [hnear] at nc ⊢
          exact steps_add _ _ _ nc (check_canon _ _ _ (by unfold stepsD at hl; omega))

/-! ### The examples -/
def exD (i : Nat) : D := [canon false 25 1, canon true 25 1, canon false 351 2, canon false 4 2, canon false 1250 0].getD i zeroD
def exS (i : Nat) : Int := [0, 0, 0, 1, -2].getD i 0
def exU (i : Nat) : Int := [0, 0, 0, 1, 0].getD i 0
def exW (i j : Nat) : Int := ([[2, 3, 2, 2, 3, 3, 2], [-2, -3, -2, -2, -3, -2, -3], [3, 4, 4, 4, 4, 4, 3], [0, 0, 0, 0, 1, 1, 0], [1200, 1300, 1200, 1200, 1300, 1300, 1200]].getD i []).getD j 0
theorem ex_check : ∀ i, i < 5 → checkE (exD i) = 0 := by
  intro i hi
  match i, hi with
  | 0, _ => exact (show checkE (canon false 25 1) = 0 from check_canon _ _ _ (long_canon _ _ _ (by decide +kernel) (by decide)))
  | 1, _ => exact (show checkE (canon true 25 1) = 0 from check_canon _ _ _ (long_canon _ _ _ (by decide +kernel) (by decide)))
  | 2, _ => exact (show checkE (canon false 351 2) = 0 from check_canon _ _ _ (long_canon _ _ _ (by decide +kernel) (by decide)))
  | 3, _ => exact (show checkE (canon false 4 2) = 0 from check_canon _ _ _ (long_canon _ _ _ (by decide +kernel) (by decide)))
  | 4, _ => exact (show checkE (canon false 1250 0) = 0 from check_canon _ _ _ (long_canon _ _ _ (by decide +kernel) (by decide)))
theorem ex_round : ∀ i, i < 5 → ∀ j, j < 7 → roundE (exD i) (exS i) (j : Nat) = (canon (decide (exW i j < 0)) (exW i j).natAbs (exU i).toNat, 0) := by
  intro i hi j hj
  have hs : -62 ≤ exS i ∧ exS i ≤ 62 := by
    match i, hi with
    | 0, _ => decide
    | 1, _ => decide
    | 2, _ => decide
    | 3, _ => decide
    | 4, _ => decide
  rw [roundE_val (ex_check i hi) _ _ hs.1 hs.2 (by omega)]
  match i, hi with
  | 0, _ =>
    match j, hj with
    | 0, _ => exact (show (_ : D × Int) = _ by kernel_rfl)
    | 1, _ => exact (show (_ : D × Int) = _ by kernel_rfl)
    | 2, _ => exact (show (_ : D × Int) = _ by kernel_rfl)
    | 3, _ => exact (show (_ : D × Int) = _ by kernel_rfl)
    | 4, _ => exact (show (_ : D × Int) = _ by kernel_rfl)
    | 5, _ => exact (show (_ : D × Int) = _ by kernel_rfl)
    | 6, _ => exact (show (_ : D × Int) = _ by kernel_rfl)
  | 1, _ =>
    match j, hj with
    | 0, _ => exact (show (_ : D × Int) = _ by kernel_rfl)
    | 1, _ => exact (show (_ : D × Int) = _ by kernel_rfl)
    | 2, _ => exact (show (_ : D × Int) = _ by kernel_rfl)
    | 3, _ => exact (show (_ : D × Int) = _ by kernel_rfl)
    | 4, _ => exact (show (_ : D × Int) = _ by kernel_rfl)
    | 5, _ => exact (show (_ : D × Int) = _ by kernel_rfl)
    | 6, _ => exact (show (_ : D × Int) = _ by kernel_rfl)
  | 2, _ =>
    match j, hj with
    | 0, _ => exact (show (_ : D × Int) = _ by kernel_rfl)
    | 1, _ => exact (show (_ : D × Int) = _ by kernel_rfl)
    | 2, _ => exact (show (_ : D × Int) = _ by kernel_rfl)
    | 3, _ => exact (show (_ : D × Int) = _ by kernel_rfl)
    | 4, _ => exact (show (_ : D × Int) = _ by kernel_rfl)
    | 5, _ => exact (show (_ : D × Int) = _ by kernel_rfl)
    | 6, _ => exact (show (_ : D × Int) = _ by kernel_rfl)
  | 3, _ =>
    match j, hj with
    | 0, _ => exact (show (_ : D × Int) = _ by kernel_rfl)
    | 1, _ => exact (show (_ : D × Int) = _ by kernel_rfl)
    | 2, _ => exact (show (_ : D × Int) = _ by kernel_rfl)
    | 3, _ => exact (show (_ : D × Int) = _ by kernel_rfl)
    | 4, _ => exact (show (_ : D × Int) = _ by kernel_rfl)
    | 5, _ => exact (show (_ : D × Int) = _ by kernel_rfl)
    | 6, _ => exact (show (_ : D × Int) = _ by kernel_rfl)
  | 4, _ =>
    match j, hj with
    | 0, _ => exact (show (_ : D × Int) = _ by kernel_rfl)
    | 1, _ => exact (show (_ : D × Int) = _ by kernel_rfl)
    | 2, _ => exact (show (_ : D × Int) = _ by kernel_rfl)
    | 3, _ => exact (show (_ : D × Int) = _ by kernel_rfl)
    | 4, _ => exact (show (_ : D × Int) = _ by kernel_rfl)
    | 5, _ => exact (show (_ : D × Int) = _ by kernel_rfl)
    | 6, _ => exact (show (_ : D × Int) = _ by kernel_rfl)

def exM : D := canon true 125 1
theorem ex_prohibited : roundE (exD 0) 0 7 = (noD, 14) := by
  rw [roundE_val (ex_check 0 (by omega)) _ _ (by omega) (by omega) (by omega)]
  exact (show (_ : D × Int) = _ by kernel_rfl)
theorem ex_fits1 : fitsE exM 3 1 = (true, 0) := by kernel_rfl
theorem ex_fits2 : fitsE exM 2 1 = (false, 0) := by kernel_rfl
theorem ex_low : lowE exM 2 1 = (canon true 25 1, 0) := by kernel_rfl
theorem ex_dig1 : digitsE exM 4 1 = ([48, 49, 50, 53], 0) := by kernel_rfl
theorem ex_dig2 : digitsE (canon false 1200 0) 3 (-2) = ([48, 49, 50], 0) := by kernel_rfl
theorem ex_dig3 : digitsE (canon false 5 3) 1 3 = ([53], 0) := by kernel_rfl
end Go.Proofs.YteagjfcmhmmljaaDoor

