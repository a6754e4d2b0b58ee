/-
  Texts of this proof, joined: CoC, CoD, CoE, CoF.
  Conditions: none.
-/
import Derived.Test.YtikpnhdjjabdmaaDoorCb
set_option linter.unusedSimpArgs false
set_option linter.unnecessarySimpa false
set_option linter.unusedVariables false
/-
  Contracts: fault, valid, At of the package columns.
  Conditions: none.
-/
namespace Go.Proofs.YtikpnhdjjabdmaaDoor
open Go.AM
open Go.Proofs
open Go.Col
set_option maxRecDepth 100000

def faultA (f : FaultC) : AVal := .agg [.int .i64 f.e, .int .i64 f.line, .int .i64 f.col]
def markC (m : MarkC) : List AVal := [.int .i64 m.frm, .int .i64 m.line, .int .i64 m.col]
def posA (line col : Int) : AVal := .agg [.int .i64 line, .int .i64 col]
def cardA (c : CardC) (mv : AVal) : AVal := .agg [.bool c.left, .str c.text, mv]

theorem c_fault (w₀ : World) (h : AHeap) (e line col : Int) : ACall Tryd.prog w₀ 53 [.int .i64 e, .int .i64 line, .int .i64 col] h (fun v h' => v = faultA ⟨e, line, col⟩ ∧ h' = h) := by
  refine acall_intro (n := 12) (rs := [.cell 6 34]) Tryd.func53 rfl rfl rfl rfl (Nat.le_of_ble_eq_true rfl) ?_
  simp only [initSlots]
  -- region 0  columns.go:52
  refine awp_rseq [0, 1, 2, 6] (by rfl) fun K hK => ?_
  refine aOps_alloc ze34 (cs := [.int .i64 0, .int .i64 0, .int .i64 0]) (by rfl) fun k0q0 hk0q0 => ?_
  try have hf_0q0 : h k0q0 = none := by first | assumption | (simp only [AHeap.set_none] at hk0q0; simp only [hk0q0])
  simp (decide := true) only [aOps_nil, putD, Slots.put, Slots.keep, if_true, if_false, Nat.zero_add, Nat.reduceAdd]
  repeat (with_reducible refine And.intro ?_ ?_; · first | trivial | omega | (intro hg; simp only [Bool.and_eq_true, Bool.or_eq_true, Bool.not_eq_true', Bool.and_eq_false_iff, Bool.or_eq_false_iff, Bool.not_eq_false', decide_eq_true_eq, decide_eq_false_iff_not, eqNil] at hg; omega) )
  apply hK; clear hK K
  -- region 1  columns.go:53
  refine awp_rseq [6] (by rfl) fun K hK => ?_
  simp (decide := true) only [ev, absV, absS, putD, Slots.put, Slots.get, if_true, if_false, true_and, ↓ap_move, pop_move, ↓ap_build, ↓pop_buildL, bld32_0_1, evP, List.map_cons, List.map_nil, bld34_0_1]
  repeat (with_reducible refine And.intro ?_ ?_; · first | trivial | omega | (intro hg; simp only [Bool.and_eq_true, Bool.or_eq_true, Bool.not_eq_true', Bool.and_eq_false_iff, Bool.or_eq_false_iff, Bool.not_eq_false', decide_eq_true_eq, decide_eq_false_iff_not, eqNil] at hg; omega) )
  refine aOps_store (by rfl) (by rfl) (by repeat (first | exact AHeap.set_same _ _ _ | assumption | refine (AHeap.set_ne _ _ (by first | assumption | exact Ne.symm (by assumption))).trans ?_)) sz34 (by rfl) (by rfl) (by first | exact Nat.le_refl _ | decide | (simp; done) | (simp; omega)) (Nat.zero_le _) (by rfl) ?_
  simp only [AHeap.set_set, AVal.cells]
  simp (decide := true) only [aOps_nil, ev, putD, Slots.get, Slots.keep, if_true, if_false, setAt, List.set_cons_zero, List.set_cons_succ, Nat.zero_add, Nat.reduceAdd]
  repeat (with_reducible refine And.intro ?_ ?_; · first | trivial | omega | (intro hg; simp only [Bool.and_eq_true, Bool.or_eq_true, Bool.not_eq_true', Bool.and_eq_false_iff, Bool.or_eq_false_iff, Bool.not_eq_false', decide_eq_true_eq, decide_eq_false_iff_not, eqNil] at hg; omega) )
  apply hK; clear hK K
  refine awp_ret ?_
  try simp only [thenA_ret, inBlockA_ret]
  refine retA_ret h (by repeat (first | exact Sub.refl _ | assumption | refine Sub.trans_set ?_ (by assumption))) (?_) ?_
  · simp (decide := true) only [resPre, resV_cell, Slots.get, if_true, and_true, resV_cell, pLoad_agg ag34 sz34, rd_set, cellsAt, List.getD_cons_zero, List.getD_cons_succ, Nat.zero_add, Nat.reduceAdd, lv_int, allLive, Bool.and_true, cellsAt, List.getD_cons_zero, List.getD_cons_succ, Nat.zero_add, Nat.reduceAdd, lv_int, allLive, Bool.and_true]
  
  simp (decide := true) only [Slots.get, if_true, and_true, resOfG_one, resV_cell, pLoad_agg ag34 sz34, rd_set, cellsAt, List.getD_cons_zero, List.getD_cons_succ, Nat.zero_add, Nat.reduceAdd, lv_int, allLive, Bool.and_true, cellsAt, List.getD_cons_zero, List.getD_cons_succ, Nat.zero_add, Nat.reduceAdd, lv_int, allLive, Bool.and_true, faultA]
  all_goals first | rfl | exact ⟨rfl, rfl⟩ | (simp (decide := true) only [if_true, if_false, *]; done) | (trace_state; fail)

theorem validC_go {c : CardC} {b : Int} {i : Nat} (hi : i < c.marks.length) : validC.go c b (c.marks.drop i) = (decide (b < (c.marks.getD i ⟨0, 0, 0⟩).frm ∧ (c.marks.getD i ⟨0, 0, 0⟩).frm < c.text.length ∧ 1 ≤ (c.marks.getD i ⟨0, 0, 0⟩).line ∧ 8 ≤ (c.marks.getD i ⟨0, 0, 0⟩).col ∧ (c.marks.getD i ⟨0, 0, 0⟩).col ≤ 72) && validC.go c (c.marks.getD i ⟨0, 0, 0⟩).frm (c.marks.drop (i + 1))) := by
  rw [List.drop_eq_getElem_cons hi]
  simp only [validC.go, List.getD, List.getElem?_eq_getElem hi, Option.getD_some]

theorem validC_eq {c : CardC} (hn : c.marks ≠ []) : validC c = (decide ((c.marks.getD 0 ⟨0, 0, 0⟩).frm = 0) && validC.go c (-1) c.marks) := by
  unfold validC
  split
  · rename_i h; exact absurd h hn
  · rename_i m ms h; rw [h]; rfl
theorem c_validN (w₀ : World) (h : AHeap) (b : Bool) (t : Str) : ACall Tryd.prog w₀ 42 [.agg [.bool b, .str t, .nilSlice]] h (fun v h' => v = .bool false ∧ h' = h) := by
  refine acall_intro (n := 58) (rs := [.tmp 2]) Tryd.func42 rfl rfl rfl rfl (Nat.le_of_ble_eq_true rfl) ?_
  simp only [initSlots]
  -- region 0  columns.go:151
  refine awp_rseq [1] (by rfl) fun K hK => ?_
  refine aOps_box (by rfl) (by rfl) (by rfl) fun k0q0 hk0q0 => ?_
  try have hf_0q0 : h k0q0 = none := by first | assumption | (simp only [AHeap.set_none] at hk0q0; simp only [hk0q0])
  skip
  simp (decide := true) only [aOps_nil, ev, absV, absS, putD, Slots.put, Slots.get, Slots.keep, if_true, if_false, true_and, ↓ap_assign, pop_assign, AVal.cells]
  repeat (with_reducible refine And.intro ?_ ?_; · first | trivial | omega | (intro hg; simp only [Bool.and_eq_true, Bool.or_eq_true, Bool.not_eq_true', Bool.and_eq_false_iff, Bool.or_eq_false_iff, Bool.not_eq_false', decide_eq_true_eq, decide_eq_false_iff_not, eqNil] at hg; omega) )
  apply hK; clear hK K
  refine awp_seq ?_
  -- region 1  columns.go:152
  refine awp_rseq [1, 17] (by rfl) fun K hK => ?_
  simp (decide := true) only [aOps_nil, ev, absV, absS, putD, Slots.put, Slots.get, Slots.keep, if_true, if_false, true_and, ↓ap_fieldAddr, pop_fieldAddr, fa39_2, ↓ap_loadL, apL_mk, pLoad_one ag37, ↓ap_len, pop_len, pLen_nil Tryd.underlying37, ↓ap_binOp, pop_binOp, isNilC_int, cond_false, pBinX_int, pI_eql, ↓ap_move, pop_move, ↓ag_fieldAddr, agP, agQ_some, nthDst, gKnown_bool, guardB_bool_false, implies_true, decide_true, Bool.not_true, condV_false, false_implies, pickV_true, agL_deadT, ↓ag_loadL, agQL_some, ↓ag_indexAddrL, ↓ag_binOp, ↓ap_pick, pop_pick, pPick_bool, rd_any, List.getD_cons_zero, List.getD_cons_succ, Nat.zero_add, lv_nilSlice]
  repeat (with_reducible refine And.intro ?_ ?_; · first | trivial | omega | (intro hg; simp only [Bool.and_eq_true, Bool.or_eq_true, Bool.not_eq_true', Bool.and_eq_false_iff, Bool.or_eq_false_iff, Bool.not_eq_false', decide_eq_true_eq, decide_eq_false_iff_not, eqNil] at hg; omega) )
  apply hK; clear hK K
  refine awp_cond (b := _) rfl (fun hb1 => ?_) (fun hb1 => ?_)
  · try simp only at hb1
    -- region 2  columns.go:153
    refine awp_rseq [2] (by rfl) fun K hK => ?_
    simp (decide := true) only [aOps_nil, ev, absV, absS, putD, Slots.put, Slots.keep, if_true, if_false, true_and, ↓ap_assign, pop_assign]
    repeat (with_reducible refine And.intro ?_ ?_; · first | trivial | omega | (intro hg; simp only [Bool.and_eq_true, Bool.or_eq_true, Bool.not_eq_true', Bool.and_eq_false_iff, Bool.or_eq_false_iff, Bool.not_eq_false', decide_eq_true_eq, decide_eq_false_iff_not, eqNil] at hg; omega) )
    apply hK; clear hK K
    refine awp_ret ?_
    try simp only [thenA_ret]
    refine retA_ret h (by repeat (first | exact Sub.refl _ | assumption | refine Sub.trans_set ?_ (by assumption))) (resPre_tmp (resPre_nil)) ?_
    simp (decide := true) only [Slots.get, if_true, and_true, resOf_one]
    all_goals first | rfl | exact ⟨rfl, rfl⟩ | (simp (decide := true) only [if_true, if_false, *]; done) | (trace_state; fail)
  · exact absurd hb1 (by decide)
theorem c_validE (w₀ : World) (h : AHeap) (b : Bool) (t : Str) (l : AM.Loc) (o : Nat) (cp : Cap) : ACall Tryd.prog w₀ 42 [.agg [.bool b, .str t, .slice l o 0 cp]] h (fun v h' => v = .bool false ∧ h' = h) := by
  refine acall_intro (n := 58) (rs := [.tmp 2]) Tryd.func42 rfl rfl rfl rfl (Nat.le_of_ble_eq_true rfl) ?_
  simp only [initSlots]
  -- region 0  columns.go:151
  refine awp_rseq [1] (by rfl) fun K hK => ?_
  refine aOps_box (by rfl) (by rfl) (by rfl) fun k0q0 hk0q0 => ?_
  try have hf_0q0 : h k0q0 = none := by first | assumption | (simp only [AHeap.set_none] at hk0q0; simp only [hk0q0])
  skip
  simp (decide := true) only [aOps_nil, ev, absV, absS, putD, Slots.put, Slots.get, Slots.keep, if_true, if_false, true_and, ↓ap_assign, pop_assign, AVal.cells]
  repeat (with_reducible refine And.intro ?_ ?_; · first | trivial | omega | (intro hg; simp only [Bool.and_eq_true, Bool.or_eq_true, Bool.not_eq_true', Bool.and_eq_false_iff, Bool.or_eq_false_iff, Bool.not_eq_false', decide_eq_true_eq, decide_eq_false_iff_not, eqNil] at hg; omega) )
  apply hK; clear hK K
  refine awp_seq ?_
  -- region 1  columns.go:152
  refine awp_rseq [1, 17] (by rfl) fun K hK => ?_
  simp (decide := true) only [aOps_nil, ev, absV, absS, putD, Slots.put, Slots.get, Slots.keep, if_true, if_false, true_and, ↓ap_fieldAddr, pop_fieldAddr, fa39_2, ↓ap_loadL, apL_mk, pLoad_one ag37, ↓ap_len, pop_len, pLen_slice Tryd.underlying37, ↓ap_binOp, pop_binOp, isNilC_int, cond_false, pBinX_int, pI_eql, ↓ap_move, pop_move, ↓ag_fieldAddr, agP, agQ_some, nthDst, gKnown_bool, guardB_bool_false, implies_true, decide_true, Bool.not_true, condV_false, false_implies, pickV_true, agL_deadT, ↓ag_loadL, agQL_some, ↓ag_indexAddrL, ↓ag_binOp, ↓ap_pick, pop_pick, pPick_bool, rd_any, List.getD_cons_zero, List.getD_cons_succ, Nat.zero_add, lv_slice, Int.natCast_zero]
  repeat (with_reducible refine And.intro ?_ ?_; · first | trivial | omega | (intro hg; simp only [Bool.and_eq_true, Bool.or_eq_true, Bool.not_eq_true', Bool.and_eq_false_iff, Bool.or_eq_false_iff, Bool.not_eq_false', decide_eq_true_eq, decide_eq_false_iff_not, eqNil] at hg; omega) )
  apply hK; clear hK K
  refine awp_cond (b := _) rfl (fun hb1 => ?_) (fun hb1 => ?_)
  · try simp only at hb1
    -- region 2  columns.go:153
    refine awp_rseq [2] (by rfl) fun K hK => ?_
    simp (decide := true) only [aOps_nil, ev, absV, absS, putD, Slots.put, Slots.keep, if_true, if_false, true_and, ↓ap_assign, pop_assign]
    repeat (with_reducible refine And.intro ?_ ?_; · first | trivial | omega | (intro hg; simp only [Bool.and_eq_true, Bool.or_eq_true, Bool.not_eq_true', Bool.and_eq_false_iff, Bool.or_eq_false_iff, Bool.not_eq_false', decide_eq_true_eq, decide_eq_false_iff_not, eqNil] at hg; omega) )
    apply hK; clear hK K
    refine awp_ret ?_
    try simp only [thenA_ret]
    refine retA_ret h (by repeat (first | exact Sub.refl _ | assumption | refine Sub.trans_set ?_ (by assumption))) (resPre_tmp (resPre_nil)) ?_
    simp (decide := true) only [Slots.get, if_true, and_true, resOf_one]
    all_goals first | rfl | exact ⟨rfl, rfl⟩ | (simp (decide := true) only [if_true, if_false, *]; done) | (trace_state; fail)
  · exact absurd hb1 (by decide)
theorem c_validS (w₀ : World) (h : AHeap) (c : CardC) (l : AM.Loc) (o : Nat) (cp : Cap) (hm : IsL w₀ h 3 (.slice l o c.marks.length cp) (c.marks.map markC)) (hn : c.marks ≠ []) (hl : c.marks.length ≤ 4611686018427387904) : ACall Tryd.prog w₀ 42 [cardA c (.slice l o c.marks.length cp)] h (fun v h' => v = .bool (validC c) ∧ h' = h) := by
  have hn0 : 0 < c.marks.length := List.length_pos_iff.2 hn
  have hnb : ¬ ((c.marks.length : Int) = 0) := by omega
  unfold cardA
  refine acall_intro (n := 58) (rs := [.tmp 2]) Tryd.func42 rfl rfl rfl rfl (Nat.le_of_ble_eq_true rfl) ?_
  simp only [initSlots]
  -- region 0  columns.go:151
  refine awp_rseq [1] (by rfl) fun K hK => ?_
  refine aOps_box (by rfl) (by rfl) (by rfl) fun k0q0 hk0q0 => ?_
  try have hf_0q0 : h k0q0 = none := by first | assumption | (simp only [AHeap.set_none] at hk0q0; simp only [hk0q0])
  skip
  simp (decide := true) only [aOps_nil, ev, absV, absS, putD, Slots.put, Slots.get, Slots.keep, if_true, if_false, true_and, ↓ap_assign, pop_assign, AVal.cells]
  have hm0 := hm.mono (h' := h.set k0q0 ⟨[.bool c.left, .str c.text, .slice l o c.marks.length cp], 0⟩) (Sub.set hk0q0)
  have he0 := hm0.elem (i := 0) (by rw [List.length_map]; exact hn0)
  rw [getD_map ⟨0, 0, 0⟩ hn0] at he0
  simp only [cellsAt, markC, List.cons.injEq, and_true] at he0
  obtain ⟨e00, e01, e02⟩ := he0
  apply hK; clear hK K
  refine awp_seq ?_
  -- region 1  columns.go:152
  refine awp_rseq [1, 17] (by rfl) fun K hK => ?_
  simp (decide := true) only [aOps_nil, ev, absV, absS, putD, Slots.put, Slots.get, Slots.keep, if_true, if_false, true_and, ↓ap_fieldAddr, pop_fieldAddr, fa39_2, ↓ap_loadL, apL_mk, pLoad_one ag37, ↓ap_len, pop_len, pLen_slice Tryd.underlying37, ↓ap_binOp, pop_binOp, isNilC_int, cond_false, pBinX_int, pI_eql, ↓ap_move, pop_move, ↓ag_fieldAddr, agP, agQ_some, nthDst, gKnown_bool, guardB_bool_false, implies_true, decide_false, Bool.not_false, condV_true, forall_const, Bool.false_or, ↓ag_loadL, agQL_some, agL_mk, ↓ag_indexAddrL, pIndexAddr_slice Tryd.underlying37 sz57, fa57_0, pLoad_one ag3, ↓ag_binOp, pI_neq, ↓ap_pick, pop_pick, pPick_bool, pickV_or, rd_any, List.getD_cons_zero, List.getD_cons_succ, Nat.zero_add, lv_int, lv_slice, e00, hnb, decide_false, Int.toNat_zero]
  repeat (with_reducible refine And.intro ?_ ?_; · first | trivial | omega | (intro hg; simp only [Bool.and_eq_true, Bool.or_eq_true, Bool.not_eq_true', Bool.and_eq_false_iff, Bool.or_eq_false_iff, Bool.not_eq_false', decide_eq_true_eq, decide_eq_false_iff_not, eqNil] at hg; omega) )
  apply hK; clear hK K
  refine awp_cond (b := _) rfl (fun hb1 => ?_) (fun hb1 => ?_)
  · try simp only [decide_eq_false_iff_not, Bool.not_eq_true'] at hb1
    -- region 2  columns.go:153
    refine awp_rseq [2] (by rfl) fun K hK => ?_
    simp (decide := true) only [aOps_nil, ev, absV, absS, putD, Slots.put, Slots.keep, if_true, if_false, true_and, ↓ap_assign, pop_assign]
    repeat (with_reducible refine And.intro ?_ ?_; · first | trivial | omega | (intro hg; simp only [Bool.and_eq_true, Bool.or_eq_true, Bool.not_eq_true', Bool.and_eq_false_iff, Bool.or_eq_false_iff, Bool.not_eq_false', decide_eq_true_eq, decide_eq_false_iff_not, eqNil] at hg; omega) )
    apply hK; clear hK K
    refine awp_ret ?_
    try simp only [thenA_ret]
    refine retA_ret h (by repeat (first | exact Sub.refl _ | assumption | refine Sub.trans_set ?_ (by assumption))) (resPre_tmp (resPre_nil)) ?_
    simp (decide := true) only [Slots.get, if_true, and_true, resOf_one]
    rw [validC_eq hn, decide_eq_false hb1, Bool.false_and]
  · try simp only [decide_eq_true_eq, Bool.not_eq_false'] at hb1
    refine awp_skip ?_
    change Awp _ _ _ _ _ _ _
    -- region 3  columns.go:155
    refine awp_rseq [1, 3] (by rfl) fun K hK => ?_
    simp (decide := true) only [aOps_nil, ev, absV, absS, putD, Slots.put, Slots.keep, if_true, if_false, true_and, ↓ap_assign, pop_assign]
    repeat (with_reducible refine And.intro ?_ ?_; · first | trivial | omega | (intro hg; simp only [Bool.and_eq_true, Bool.or_eq_true, Bool.not_eq_true', Bool.and_eq_false_iff, Bool.or_eq_false_iff, Bool.not_eq_false', decide_eq_true_eq, decide_eq_false_iff_not, eqNil] at hg; omega) )
    apply hK; clear hK K
    refine awp_seq ?_
    -- region 4  columns.go:156
    refine awp_rseq [1, 3, 19, 20, 21] (by rfl) fun K hK => ?_
    simp (decide := true) only [aOps_nil, ev, absV, absS, putD, Slots.put, Slots.get, Slots.keep, if_true, if_false, true_and, ↓ap_fieldAddr, pop_fieldAddr, fa39_2, ↓ap_loadL, apL_mk, pLoad_one ag37, ↓ap_len, pop_len, pLen_slice Tryd.underlying37, ↓ap_move, pop_move, rd_any, List.getD_cons_zero, List.getD_cons_succ, Nat.zero_add, lv_slice]
    repeat (with_reducible refine And.intro ?_ ?_; · first | trivial | omega | (intro hg; simp only [Bool.and_eq_true, Bool.or_eq_true, Bool.not_eq_true', Bool.and_eq_false_iff, Bool.or_eq_false_iff, Bool.not_eq_false', decide_eq_true_eq, decide_eq_false_iff_not, eqNil] at hg; omega) )
    apply hK; clear hK K
    refine awp_block ?_
    refine awp_loopG [1, 3, 19, 20, 21] (fun g : Nat × Int => [(1, .ptr (.own k0q0) 0), (3, .int .i64 g.2), (19, .slice l o c.marks.length cp), (20, .int .i64 c.marks.length), (21, .int .i64 g.1)]) (fun g : Nat × Int => h.set k0q0 ⟨[.bool c.left, .str c.text, .slice l o c.marks.length cp], 0⟩) (fun g : Nat × Int => g.1 ≤ c.marks.length ∧ validC.go c g.2 (c.marks.drop g.1) = validC.go c (-1) c.marks) (fun g : Nat × Int => c.marks.length - g.1) (0, -1) (by rfl) (Sub.refl _) ⟨Nat.zero_le _, rfl⟩ ?_
    rintro ⟨i, b⟩ ⟨hi, hg⟩
    simp only at hi hg ⊢
    -- region 5  columns.go:156
    refine awp_rseq [1, 3, 19, 20, 21, 22] (by rfl) fun K hK => ?_
    simp (decide := true) only [aOps_nil, ev, putD, Slots.put, Slots.get, Slots.keep, if_true, if_false, true_and, ↓ap_binOp, pop_binOp, isNilC_tmp, cond_false, pBinX_int, pI_lss]
    repeat (with_reducible refine And.intro ?_ ?_; · first | trivial | omega | (intro hg; simp only [Bool.and_eq_true, Bool.or_eq_true, Bool.not_eq_true', Bool.and_eq_false_iff, Bool.or_eq_false_iff, Bool.not_eq_false', decide_eq_true_eq, decide_eq_false_iff_not, eqNil] at hg; omega) )
    apply hK; clear hK K
    refine awp_seq (awp_cond (b := _) rfl (fun hb2 => ?_) (fun hb2 => ?_))
    · try simp only [decide_eq_true_eq] at hb2
      have hi' : i < c.marks.length := by omega
      have he := hm0.elem (i := i) (by rw [List.length_map]; exact hi')
      rw [getD_map ⟨0, 0, 0⟩ hi'] at he
      simp only [cellsAt, markC, List.cons.injEq, and_true] at he
      obtain ⟨e0, e1, e2⟩ := he
      refine awp_skip ?_
      change Awp _ _ _ _ _ _ _
      refine awp_seq ?_
      refine awp_block ?_
      -- region 6  columns.go:156
      refine awp_rseq [1, 3, 5, 19, 20, 21] (by rfl) fun K hK => ?_
      simp (decide := true) only [ev, putD, Slots.put, Slots.get, if_true, if_false, true_and, ↓ap_indexAddrL, apL_mk, pIndexAddr_slice Tryd.underlying37 sz57, ↓ap_loadL, pLoad_agg ag57 sz57, cellsAt, lv_int, allLive, Bool.and_true, e0, e1, e2, Int.toNat_natCast]
      repeat (with_reducible refine And.intro ?_ ?_; · first | trivial | omega | (intro hg; simp only [Bool.and_eq_true, Bool.or_eq_true, Bool.not_eq_true', Bool.and_eq_false_iff, Bool.or_eq_false_iff, Bool.not_eq_false', decide_eq_true_eq, decide_eq_false_iff_not, eqNil] at hg; omega) )
      refine aOps_alloc ze57 (cs := [.int .i64 0, .int .i64 0, .int .i64 0]) (by rfl) fun k6q2 hk6q2 => ?_
      have ne_6q2_0q0 : k6q2 ≠ k0q0 := by simp only [AHeap.set_none] at hk6q2; simp only [hk6q2, ne_eq, not_false_eq_true]
      try have hf_6q2 : h k6q2 = none := by first | assumption | (simp only [AHeap.set_none] at hk6q2; simp only [hk6q2])
      refine aOps_store (by rfl) (by rfl) (by repeat (first | exact AHeap.set_same _ _ _ | assumption | refine (AHeap.set_ne _ _ (by first | assumption | exact Ne.symm (by assumption))).trans ?_)) sz57 (by rfl) (by rfl) (by first | exact Nat.le_refl _ | decide | (simp; done) | (simp; omega)) (Nat.zero_le _) (by rfl) ?_
      simp only [AHeap.set_set, AVal.cells]
      simp (decide := true) only [aOps_nil, ev, putD, Slots.put, Slots.get, Slots.keep, if_true, if_false, setAt, List.set_cons_zero, List.set_cons_succ, Nat.zero_add, Nat.reduceAdd]
      repeat (with_reducible refine And.intro ?_ ?_; · first | trivial | omega | (intro hg; simp only [Bool.and_eq_true, Bool.or_eq_true, Bool.not_eq_true', Bool.and_eq_false_iff, Bool.or_eq_false_iff, Bool.not_eq_false', decide_eq_true_eq, decide_eq_false_iff_not, eqNil] at hg; omega) )
      apply hK; clear hK K
      refine awp_seq ?_
      -- region 7  columns.go:157
      refine awp_rseq [1, 5, 19, 20, 21, 54] (by rfl) fun K hK => ?_
      simp (decide := true) only [aOps_nil, ev, absV, absS, putD, Slots.put, Slots.get, Slots.keep, if_true, if_false, true_and, ↓ap_fieldAddr, pop_fieldAddr, fa57_0, ↓ap_loadL, apL_mk, pLoad_one ag3, ↓ap_move, pop_move, ↓ap_binOp, pop_binOp, isNilC_tmp, cond_false, pBinX_int, pI_leq, ↓ag_fieldAddr, agP, agQ_some, nthDst, gKnown_bool, guardB_bool_false, implies_true, cv_fieldAddr, cp_fieldAddr, ↓ag_loadL, agQL_some, agL_mk, agL_ld2, fa39_1, pLoad_one ag9, ↓ag_len, pop_len, pLen_str Tryd.underlying9, cv_len, cp_len, ↓ag_binOp, cv_binl, cv_binr, cp_binl, cp_binr, pI_geq, ↓ap_pick, pop_pick, pPick_bool, pickV_cond_r, pickV_or, fa57_1, fa32_0, isNilC_int, pI_lss, fa32_1, pI_gtr, rd_ne', ne_eq, not_false_eq_true, ne_6q2_0q0.symm, rd_any, List.getD_cons_zero, List.getD_cons_succ, Nat.zero_add, Nat.reduceAdd, lv_int, lv_str]
      repeat (with_reducible refine And.intro ?_ ?_; · first | trivial | omega | (intro hg; simp only [Bool.and_eq_true, Bool.or_eq_true, Bool.not_eq_true', Bool.and_eq_false_iff, Bool.or_eq_false_iff, Bool.not_eq_false', decide_eq_true_eq, decide_eq_false_iff_not, eqNil] at hg; omega) )
      apply hK; clear hK K
      refine awp_cond (b := _) rfl (fun hb3 => ?_) (fun hb3 => ?_)
      · try simp only [decide_eq_true_eq, Bool.or_eq_true] at hb3
        -- region 8  columns.go:158
        refine awp_rseq [2] (by rfl) fun K hK => ?_
        simp (decide := true) only [aOps_nil, ev, absV, absS, putD, Slots.put, Slots.keep, if_true, if_false, true_and, ↓ap_assign, pop_assign]
        repeat (with_reducible refine And.intro ?_ ?_; · first | trivial | omega | (intro hg; simp only [Bool.and_eq_true, Bool.or_eq_true, Bool.not_eq_true', Bool.and_eq_false_iff, Bool.or_eq_false_iff, Bool.not_eq_false', decide_eq_true_eq, decide_eq_false_iff_not, eqNil] at hg; omega) )
        apply hK; clear hK K
        refine awp_ret ?_
        try simp only [thenA_ret, inBlockA_ret]
        refine retA_ret h (by repeat (first | exact Sub.refl _ | assumption | refine Sub.trans_set ?_ (by assumption))) (resPre_tmp (resPre_nil)) ?_
        simp (decide := true) only [Slots.get, if_true, and_true, resOf_one]
        rw [validC_eq hn, decide_eq_true hb1, Bool.true_and, ← hg, validC_go hi', decide_eq_false (by omega), Bool.false_and]
      · try simp only [decide_eq_false_iff_not, Bool.or_eq_false_iff] at hb3
        refine awp_skip ?_
        change Awp _ _ _ _ _ _ _
        -- region 9  columns.go:160
        refine awp_r [1, 3, 19, 20, 21] (by rfl) ?_
        simp (decide := true) only [aOps_nil, ev, putD, Slots.put, Slots.get, Slots.keep, if_true, if_false, true_and, ↓ap_fieldAddr, pop_fieldAddr, fa57_0, ↓ap_loadL, apL_mk, pLoad_one ag3, ↓ap_assign, pop_assign, rd_any, List.getD_cons_zero, Nat.zero_add, lv_int]
        repeat (with_reducible refine And.intro ?_ ?_; · first | trivial | omega | (intro hg; simp only [Bool.and_eq_true, Bool.or_eq_true, Bool.not_eq_true', Bool.and_eq_false_iff, Bool.or_eq_false_iff, Bool.not_eq_false', decide_eq_true_eq, decide_eq_false_iff_not, eqNil] at hg; omega) )
        change Awp _ _ _ _ _ _ _
        -- region 10  columns.go:156
        refine awp_r [1, 3, 19, 20, 21] (by rfl) ?_
        simp (decide := true) only [aOps_nil, ev, absV, absS, putD, Slots.put, Slots.get, Slots.keep, if_true, if_false, true_and, ↓ap_binOp, pop_binOp, isNilC_int, cond_false, pBinX_int, pI_add, ↓ap_move, pop_move]
        try simp (disch := omega) only [wrap_i64]
        repeat (with_reducible refine And.intro ?_ ?_; · first | trivial | omega | (intro hg; simp only [Bool.and_eq_true, Bool.or_eq_true, Bool.not_eq_true', Bool.and_eq_false_iff, Bool.or_eq_false_iff, Bool.not_eq_false', decide_eq_true_eq, decide_eq_false_iff_not, eqNil] at hg; omega) )
        try simp only [thenA_normal]
        refine ⟨(i + 1, (c.marks.getD i ⟨0, 0, 0⟩).frm), rfl, (by repeat (first | exact Sub.refl _ | refine Sub.trans_set ?_ (by assumption))), ⟨by simp only; omega, ?_⟩, by simp only; omega⟩
        simp only
        rw [← hg, validC_go hi', decide_eq_true (by omega), Bool.true_and]
    · try simp only [decide_eq_false_iff_not] at hb2
      refine awp_exit ?_
      change Awp _ _ _ _ _ _ _
      -- region 11  columns.go:162
      refine awp_rseq [2] (by rfl) fun K hK => ?_
      simp (decide := true) only [aOps_nil, ev, absV, absS, putD, Slots.put, Slots.keep, if_true, if_false, true_and, ↓ap_assign, pop_assign]
      repeat (with_reducible refine And.intro ?_ ?_; · first | trivial | omega | (intro hg; simp only [Bool.and_eq_true, Bool.or_eq_true, Bool.not_eq_true', Bool.and_eq_false_iff, Bool.or_eq_false_iff, Bool.not_eq_false', decide_eq_true_eq, decide_eq_false_iff_not, eqNil] at hg; omega) )
      apply hK; clear hK K
      refine awp_ret ?_
      try simp only [thenA_ret, inBlockA_ret]
      refine retA_ret h (by repeat (first | exact Sub.refl _ | assumption | refine Sub.trans_set ?_ (by assumption))) (resPre_tmp (resPre_nil)) ?_
      simp (decide := true) only [Slots.get, if_true, and_true, resOf_one]
      rw [validC_eq hn, decide_eq_true hb1, Bool.true_and, ← hg, show i = c.marks.length by omega, List.drop_length]
      rfl
theorem c_valid (w₀ : World) (h : AHeap) (c : CardC) (mv : AVal) (hm : IsL w₀ h 3 mv (c.marks.map markC)) (hl : c.marks.length ≤ 4611686018427387904) : ACall Tryd.prog w₀ 42 [cardA c mv] h (fun v h' => v = .bool (validC c) ∧ h' = h) := by
  by_cases hn : c.marks = []
  · have hv : validC c = false := by unfold validC; rw [hn]
    rw [hv]
    rcases hm.open' with ⟨rfl, _⟩ | ⟨l, o, cp, rfl⟩
    · exact c_validN w₀ h c.left c.text
    · rw [hn]
      exact c_validE w₀ h c.left c.text l o cp
  · obtain ⟨l, o, cp, e⟩ := hm.open (fun e => hn (List.map_eq_nil_iff.1 e))
    rw [List.length_map] at e
    subst e
    exact c_validS w₀ h c l o cp hm hn hl

theorem atGo_append (i : Int) : ∀ (a b : List MarkC) (p : Int × Int), atGo i (a ++ b) p = atGo i b (atGo i a p)
  | [], _, _ => rfl
  | m :: a, b, p => by simp only [List.cons_append, atGo]; exact atGo_append i a b _
theorem atGo_take {i : Int} {l : List MarkC} {k : Nat} (hk : k < l.length) (p : Int × Int) : atGo i (l.take (k + 1)) p = if (l.getD k ⟨0, 0, 0⟩).frm ≤ i then ((l.getD k ⟨0, 0, 0⟩).line, (l.getD k ⟨0, 0, 0⟩).col + i - (l.getD k ⟨0, 0, 0⟩).frm) else atGo i (l.take k) p := by
  have e : l.take (k + 1) = l.take k ++ [l.getD k ⟨0, 0, 0⟩] := by
    rw [List.take_add_one, List.getElem?_eq_getElem hk]
    simp [List.getD, hk]
  rw [e, atGo_append]
  rfl
theorem validC_small {c : CardC} (hv : validC c = true) : ∀ m ∈ c.marks, 0 ≤ m.frm ∧ m.frm < c.text.length ∧ 1 ≤ m.line ∧ 8 ≤ m.col ∧ m.col ≤ 72 := by
  have go : ∀ (l : List MarkC) (b : Int), -1 ≤ b → validC.go c b l = true → ∀ m ∈ l, 0 ≤ m.frm ∧ m.frm < c.text.length ∧ 1 ≤ m.line ∧ 8 ≤ m.col ∧ m.col ≤ 72 := by
    intro l
    induction l with
    | nil => intro b _ _ m hm; simp at hm
    | cons x l ih =>
      intro b hb hg m hm
      simp only [validC.go, Bool.and_eq_true, decide_eq_true_eq] at hg
      rcases List.mem_cons.1 hm with rfl | hm
      · omega
      · exact ih _ (by omega) hg.2 m hm
  by_cases hn : c.marks = []
  · rw [hn]; simp
  · rw [validC_eq hn, Bool.and_eq_true] at hv
    exact go _ _ (by omega) hv.2
theorem c_At (w₀ : World) (h : AHeap) (c : CardC) (mv : AVal) (i : Int) (hm : IsL w₀ h 3 mv (c.marks.map markC)) (hl : c.marks.length ≤ 4611686018427387904) (ht : c.text.length ≤ 4611686018427387904) (hi0 : -9223372036854775808 ≤ i) : ACall Tryd.prog w₀ 22 [cardA c mv, .int .i64 i] h (fun v h' => v = .tuple [posA (atE c i).1 (atE c i).2.1, .int .i64 (atE c i).2.2] ∧ h' = h) := by
  have hlm := hm.live
  have hlen := hm.len Tryd.underlying37
  rw [List.length_map] at hlen
  unfold cardA
  refine acall_intro (n := 49) (rs := [.cell 4 32, .tmp 5]) Tryd.func22 rfl rfl rfl rfl (Nat.le_of_ble_eq_true rfl) ?_
  simp only [initSlots]
  -- region 0  columns.go:166
  refine awp_rseq [1, 2, 4] (by rfl) fun K hK => ?_
  refine aOps_box (by rfl) (by rfl) (by rfl) fun k0q0 hk0q0 => ?_
  try have hf_0q0 : h k0q0 = none := by first | assumption | (simp only [AHeap.set_none] at hk0q0; simp only [hk0q0])
  skip
  refine aOps_alloc ze32 (cs := [.int .i64 0, .int .i64 0]) (by rfl) fun k0q1 hk0q1 => ?_
  have ne_0q1_0q0 : k0q1 ≠ k0q0 := by simp only [AHeap.set_none] at hk0q1; simp only [hk0q1, ne_eq, not_false_eq_true]
  try have hf_0q1 : h k0q1 = none := by first | assumption | (simp only [AHeap.set_none] at hk0q1; simp only [hk0q1])
  simp (decide := true) only [aOps_nil, ev, absV, absS, putD, Slots.put, Slots.get, Slots.keep, if_true, if_false, true_and, ↓ap_assign, pop_assign, AVal.cells, Nat.zero_add]
  repeat (with_reducible refine And.intro ?_ ?_; · first | trivial | omega | (intro hg; simp only [Bool.and_eq_true, Bool.or_eq_true, Bool.not_eq_true', Bool.and_eq_false_iff, Bool.or_eq_false_iff, Bool.not_eq_false', decide_eq_true_eq, decide_eq_false_iff_not, eqNil] at hg; omega) )
  apply hK; clear hK K
  refine awp_seq ?_
  -- region 1  columns.go:167
  refine awp_rseq [1, 2, 4, 22] (by rfl) fun K hK => ?_
  simp (decide := true) only [ev, putD, Slots.put, Slots.get, if_true, if_false, true_and, ↓ap_loadL, apL_mk, pLoad_agg ag39 sz39, rd_ne', ne_eq, not_false_eq_true, ne_0q1_0q0.symm, rd_any, cellsAt, List.getD_cons_zero, List.getD_cons_succ, Nat.zero_add, Nat.reduceAdd, lv_bool, lv_str, allLive, Bool.and_true, hlm]
  repeat (with_reducible refine And.intro ?_ ?_; · first | trivial | omega | (intro hg; simp only [Bool.and_eq_true, Bool.or_eq_true, Bool.not_eq_true', Bool.and_eq_false_iff, Bool.or_eq_false_iff, Bool.not_eq_false', decide_eq_true_eq, decide_eq_false_iff_not, eqNil] at hg; omega) )
  refine aOps_callV (V := .bool (validC c)) (by rfl) (by rfl) (c_valid w₀ _ c mv (hm.mono (by repeat (first | exact Sub.refl _ | refine Sub.trans_set ?_ (by assumption)))) hl) ?_
  simp (decide := true) only [aOps_nil, ev, absV, absS, putD, Slots.put, Slots.get, Slots.keep, if_true, if_false, true_and, ↓ap_unOp, pop_unOp, pU_not, ↓ap_move, pop_move, ↓ag_move, agP, agQ_some, nthDst, gKnown_bool, guardB_bool_false, implies_true, Bool.not_not, ↓ag_binOp, pop_binOp, isNilC_int, cond_false, cv_binl, cv_binr, cp_binl, cp_binr, pBinX_int, pI_lss, ↓ap_pick, pop_pick, pPick_bool, pickV_cond_r, pickV_cond_rn, pickV_or, ↓ag_fieldAddr, pop_fieldAddr, fa39_1, ↓ag_loadL, agQL_some, agL_mk, agL_ld2, pLoad_one ag9, ↓ag_len, pop_len, pLen_str Tryd.underlying9, cv_len, cp_len, isNilC_tmp, pI_gtr, rd_ne', ne_eq, not_false_eq_true, ne_0q1_0q0.symm, rd_any, List.getD_cons_zero, List.getD_cons_succ, Nat.zero_add, lv_str]
  try simp (disch := omega) only [wrap_i64, wrap_u8]
  repeat (with_reducible refine And.intro ?_ ?_; · first | trivial | omega | (intro hg; simp only [Bool.and_eq_true, Bool.or_eq_true, Bool.not_eq_true', Bool.and_eq_false_iff, Bool.or_eq_false_iff, Bool.not_eq_false', decide_eq_true_eq, decide_eq_false_iff_not, eqNil] at hg; omega) )
  apply hK; clear hK K
  refine awp_cond (b := _) rfl (fun hb1 => ?_) (fun hb1 => ?_)
  · try simp only [decide_eq_true_eq, Bool.not_eq_true', Bool.or_eq_true] at hb1
    skip
    -- region 2  columns.go:168
    refine awp_rseq [4, 5] (by rfl) fun K hK => ?_
    simp (decide := true) only [ev, absV, absS, putD, Slots.put, Slots.get, if_false, true_and, ↓ap_build, ↓pop_buildL, bld32_, evP, List.map_nil]
    repeat (with_reducible refine And.intro ?_ ?_; · first | trivial | omega | (intro hg; simp only [Bool.and_eq_true, Bool.or_eq_true, Bool.not_eq_true', Bool.and_eq_false_iff, Bool.or_eq_false_iff, Bool.not_eq_false', decide_eq_true_eq, decide_eq_false_iff_not, eqNil] at hg; omega) )
    refine aOps_store (by rfl) (by rfl) (by repeat (first | exact AHeap.set_same _ _ _ | assumption | refine (AHeap.set_ne _ _ (by first | assumption | exact Ne.symm (by assumption))).trans ?_)) sz32 (by rfl) (by rfl) (by first | exact Nat.le_refl _ | decide | (simp; done) | (simp; omega)) (Nat.zero_le _) (by rfl) ?_
    simp only [AHeap.set_set, AVal.cells]
    simp (decide := true) only [aOps_nil, ev, absV, absS, putD, Slots.put, Slots.get, Slots.keep, if_true, if_false, true_and, ↓ap_assign, pop_assign, setAt, List.set_cons_zero, List.set_cons_succ, Nat.zero_add]
    repeat (with_reducible refine And.intro ?_ ?_; · first | trivial | omega | (intro hg; simp only [Bool.and_eq_true, Bool.or_eq_true, Bool.not_eq_true', Bool.and_eq_false_iff, Bool.or_eq_false_iff, Bool.not_eq_false', decide_eq_true_eq, decide_eq_false_iff_not, eqNil] at hg; omega) )
    apply hK; clear hK K
    refine awp_ret ?_
    try simp only [thenA_ret]
    refine retA_ret h (by repeat (first | exact Sub.refl _ | assumption | refine Sub.trans_set ?_ (by assumption))) (?_) ?_
    · simp (decide := true) only [resPre, resV_tmp, resV_cell, Slots.get, if_true, if_false, and_true, resV_tmp, resV_cell, pLoad_agg ag32 sz32, rd_set, cellsAt, List.getD_cons_zero, List.getD_cons_succ, Nat.zero_add, lv_int, allLive, Bool.and_true, cellsAt, List.getD_cons_zero, List.getD_cons_succ, Nat.zero_add, lv_int, allLive, Bool.and_true]
    
    simp (decide := true) only [Slots.get, if_true, if_false, and_true, resOfG_two, resV_tmp, resV_cell, pLoad_agg ag32 sz32, rd_set, cellsAt, List.getD_cons_zero, List.getD_cons_succ, Nat.zero_add, lv_int, allLive, Bool.and_true, cellsAt, List.getD_cons_zero, List.getD_cons_succ, Nat.zero_add, lv_int, allLive, Bool.and_true, posA]
    rw [show atE c i = (0, 0, 1) by unfold atE; rw [if_neg (by rintro ⟨q1, q2, q3⟩; rw [q1] at hb1; simp at hb1; omega)]]
  · try simp only [decide_eq_false_iff_not, Bool.not_eq_false', Bool.or_eq_false_iff] at hb1
    have hv : validC c = true := by have := hb1.1.1; simpa using this
    have hsm := validC_small hv
    have hei : atE c i = ((atGo i c.marks (0, 0)).1, (atGo i c.marks (0, 0)).2, 0) := by unfold atE; rw [if_pos ⟨hv, by omega, by omega⟩]
    have hn : c.marks ≠ [] := fun e => by unfold validC at hv; rw [e] at hv; cases hv
    obtain ⟨l, o, cp, e⟩ := hm.open (fun e => hn (List.map_eq_nil_iff.1 e))
    rw [List.length_map] at e
    subst e
    refine awp_skip ?_
    change Awp _ _ _ _ _ _ _
    -- region 3  columns.go:170
    refine awp_rseq [1, 2, 4, 6] (by rfl) fun K hK => ?_
    refine aOps_alloc ze32 (cs := [.int .i64 0, .int .i64 0]) (by rfl) fun k3q0 hk3q0 => ?_
    have ne_3q0_0q0 : k3q0 ≠ k0q0 := by simp only [AHeap.set_none] at hk3q0; simp only [hk3q0, ne_eq, not_false_eq_true]
    have ne_3q0_0q1 : k3q0 ≠ k0q1 := by simp only [AHeap.set_none] at hk3q0; simp only [hk3q0, ne_eq, not_false_eq_true]
    try have hf_3q0 : h k3q0 = none := by first | assumption | (simp only [AHeap.set_none] at hk3q0; simp only [hk3q0])
    simp (decide := true) only [aOps_nil, putD, Slots.put, Slots.keep, if_true, if_false]
    repeat (with_reducible refine And.intro ?_ ?_; · first | trivial | omega | (intro hg; simp only [Bool.and_eq_true, Bool.or_eq_true, Bool.not_eq_true', Bool.and_eq_false_iff, Bool.or_eq_false_iff, Bool.not_eq_false', decide_eq_true_eq, decide_eq_false_iff_not, eqNil] at hg; omega) )
    apply hK; clear hK K
    refine awp_seq ?_
    -- region 4  columns.go:171
    refine awp_rseq [1, 4, 6, 25, 26, 27] (by rfl) fun K hK => ?_
    simp (decide := true) only [aOps_nil, ev, absV, absS, putD, Slots.put, Slots.get, Slots.keep, if_true, if_false, true_and, ↓ap_fieldAddr, pop_fieldAddr, fa39_2, ↓ap_loadL, apL_mk, pLoad_one ag37, ↓ap_len, pop_len, pLen_slice Tryd.underlying37, ↓ap_move, pop_move, rd_ne', ne_eq, not_false_eq_true, ne_0q1_0q0.symm, ne_3q0_0q0.symm, rd_any, List.getD_cons_zero, List.getD_cons_succ, Nat.zero_add, hlm]
    repeat (with_reducible refine And.intro ?_ ?_; · first | trivial | omega | (intro hg; simp only [Bool.and_eq_true, Bool.or_eq_true, Bool.not_eq_true', Bool.and_eq_false_iff, Bool.or_eq_false_iff, Bool.not_eq_false', decide_eq_true_eq, decide_eq_false_iff_not, eqNil] at hg; omega) )
    apply hK; clear hK K
    refine awp_block ?_
    refine awp_loopG [1, 4, 6, 25, 26, 27] (fun k : Nat => [(1, .int .i64 i), (4, .ptr (.own k0q1) 0), (6, .ptr (.own k3q0) 0), (25, .slice l o c.marks.length cp), (26, .int .i64 c.marks.length), (27, .int .i64 k)]) (fun k : Nat => ((h.set k0q0 ⟨[.bool c.left, .str c.text, .slice l o c.marks.length cp], 0⟩).set k0q1 ⟨[.int .i64 0, .int .i64 0], 0⟩).set k3q0 ⟨[.int .i64 (atGo i (c.marks.take k) (0, 0)).1, .int .i64 (atGo i (c.marks.take k) (0, 0)).2], 0⟩) (fun k : Nat => k ≤ c.marks.length) (fun k : Nat => c.marks.length - k) 0 (by rfl) (Sub.refl _) (Nat.zero_le _) ?_
    intro k hk
    have hmk := hm.mono (h' := ((h.set k0q0 ⟨[.bool c.left, .str c.text, .slice l o c.marks.length cp], 0⟩).set k0q1 ⟨[.int .i64 0, .int .i64 0], 0⟩).set k3q0 ⟨[.int .i64 (atGo i (c.marks.take k) (0, 0)).1, .int .i64 (atGo i (c.marks.take k) (0, 0)).2], 0⟩) (by repeat (first | exact Sub.refl _ | refine Sub.trans_set ?_ (by assumption)))
    -- region 5  columns.go:171
    refine awp_rseq [1, 4, 6, 25, 26, 27, 28] (by rfl) fun K hK => ?_
    simp (decide := true) only [aOps_nil, ev, putD, Slots.put, Slots.get, Slots.keep, if_true, if_false, true_and, ↓ap_binOp, pop_binOp, isNilC_tmp, cond_false, pBinX_int, pI_lss]
    repeat (with_reducible refine And.intro ?_ ?_; · first | trivial | omega | (intro hg; simp only [Bool.and_eq_true, Bool.or_eq_true, Bool.not_eq_true', Bool.and_eq_false_iff, Bool.or_eq_false_iff, Bool.not_eq_false', decide_eq_true_eq, decide_eq_false_iff_not, eqNil] at hg; omega) )
    apply hK; clear hK K
    refine awp_seq (awp_cond (b := _) rfl (fun hb2 => ?_) (fun hb2 => ?_))
    · try simp only [decide_eq_true_eq] at hb2
      have hk' : k < c.marks.length := by omega
      have he := hmk.elem (i := k) (by rw [List.length_map]; exact hk')
      rw [getD_map ⟨0, 0, 0⟩ hk'] at he
      simp only [cellsAt, markC, List.cons.injEq, and_true] at he
      obtain ⟨e0, e1, e2⟩ := he
      obtain ⟨m1, m2, m3, m4, m5⟩ := hsm (c.marks.getD k ⟨0, 0, 0⟩) (by rw [List.getD, List.getElem?_eq_getElem hk']; exact List.getElem_mem hk')
      refine awp_skip ?_
      change Awp _ _ _ _ _ _ _
      refine awp_seq ?_
      refine awp_block ?_
      -- region 6  columns.go:171
      refine awp_rseq [1, 4, 6, 8, 25, 26, 27] (by rfl) fun K hK => ?_
      simp (decide := true) only [ev, putD, Slots.put, Slots.get, if_true, if_false, true_and, ↓ap_indexAddrL, apL_mk, pIndexAddr_slice Tryd.underlying37 sz57, ↓ap_loadL, pLoad_agg ag57 sz57, cellsAt, lv_int, allLive, Bool.and_true, e0, e1, e2, Int.toNat_natCast]
      repeat (with_reducible refine And.intro ?_ ?_; · first | trivial | omega | (intro hg; simp only [Bool.and_eq_true, Bool.or_eq_true, Bool.not_eq_true', Bool.and_eq_false_iff, Bool.or_eq_false_iff, Bool.not_eq_false', decide_eq_true_eq, decide_eq_false_iff_not, eqNil] at hg; omega) )
      refine aOps_alloc ze57 (cs := [.int .i64 0, .int .i64 0, .int .i64 0]) (by rfl) fun k6q2 hk6q2 => ?_
      have ne_6q2_0q0 : k6q2 ≠ k0q0 := by simp only [AHeap.set_none] at hk6q2; simp only [hk6q2, ne_eq, not_false_eq_true]
      have ne_6q2_0q1 : k6q2 ≠ k0q1 := by simp only [AHeap.set_none] at hk6q2; simp only [hk6q2, ne_eq, not_false_eq_true]
      have ne_6q2_3q0 : k6q2 ≠ k3q0 := by simp only [AHeap.set_none] at hk6q2; simp only [hk6q2, ne_eq, not_false_eq_true]
      try have hf_6q2 : h k6q2 = none := by first | assumption | (simp only [AHeap.set_none] at hk6q2; simp only [hk6q2])
      refine aOps_store (by rfl) (by rfl) (by repeat (first | exact AHeap.set_same _ _ _ | assumption | refine (AHeap.set_ne _ _ (by first | assumption | exact Ne.symm (by assumption))).trans ?_)) sz57 (by rfl) (by rfl) (by first | exact Nat.le_refl _ | decide | (simp; done) | (simp; omega)) (Nat.zero_le _) (by rfl) ?_
      simp only [AHeap.set_set, AVal.cells]
      simp (decide := true) only [aOps_nil, ev, putD, Slots.put, Slots.get, Slots.keep, if_true, if_false, setAt, List.set_cons_zero, List.set_cons_succ, Nat.zero_add, Nat.reduceAdd]
      repeat (with_reducible refine And.intro ?_ ?_; · first | trivial | omega | (intro hg; simp only [Bool.and_eq_true, Bool.or_eq_true, Bool.not_eq_true', Bool.and_eq_false_iff, Bool.or_eq_false_iff, Bool.not_eq_false', decide_eq_true_eq, decide_eq_false_iff_not, eqNil] at hg; omega) )
      apply hK; clear hK K
      -- region 7  columns.go:172
      refine awp_rseq [1, 4, 6, 8, 25, 26, 27, 34] (by rfl) fun K hK => ?_
      simp (decide := true) only [aOps_nil, ev, putD, Slots.put, Slots.get, Slots.keep, if_true, if_false, true_and, ↓ap_fieldAddr, pop_fieldAddr, fa57_0, ↓ap_loadL, apL_mk, pLoad_one ag3, ↓ap_move, pop_move, ↓ap_binOp, pop_binOp, isNilC_tmp, cond_false, pBinX_int, pI_leq, rd_any, List.getD_cons_zero, Nat.zero_add, lv_int]
      repeat (with_reducible refine And.intro ?_ ?_; · first | trivial | omega | (intro hg; simp only [Bool.and_eq_true, Bool.or_eq_true, Bool.not_eq_true', Bool.and_eq_false_iff, Bool.or_eq_false_iff, Bool.not_eq_false', decide_eq_true_eq, decide_eq_false_iff_not, eqNil] at hg; omega) )
      apply hK; clear hK K
      refine awp_cond (b := _) rfl (fun hb3 => ?_) (fun hb3 => ?_)
      · try simp only [decide_eq_true_eq] at hb3
        -- region 8  columns.go:173
        refine awp_r [1, 4, 6, 25, 26, 27] (by rfl) ?_
        simp (decide := true) only [ev, absV, absS, putD, Slots.put, Slots.get, if_true, if_false, true_and, ↓ap_fieldAddr, pop_fieldAddr, fa57_1, fa32_0, ↓ap_loadL, apL_mk, pLoad_one ag3, fa32_1, ↓ap_move, pop_move, ↓ap_binOp, pop_binOp, isNilC_tmp, cond_false, pBinX_int, pI_add, fa57_0, pI_sub, ↓ap_build, ↓pop_buildL, bld32_0_1, evP, List.map_cons, List.map_nil, rd_any, List.getD_cons_zero, List.getD_cons_succ, Nat.zero_add, Nat.reduceAdd, lv_int, posA]
        try simp (disch := omega) only [wrap_i64]
        repeat (with_reducible refine And.intro ?_ ?_; · first | trivial | omega | (intro hg; simp only [Bool.and_eq_true, Bool.or_eq_true, Bool.not_eq_true', Bool.and_eq_false_iff, Bool.or_eq_false_iff, Bool.not_eq_false', decide_eq_true_eq, decide_eq_false_iff_not, eqNil] at hg; omega) )
        refine aOps_store (by rfl) (by rfl) (by repeat (first | exact AHeap.set_same _ _ _ | assumption | refine (AHeap.set_ne _ _ (by first | assumption | exact Ne.symm (by assumption))).trans ?_)) sz32 (by rfl) (by rfl) (by first | exact Nat.le_refl _ | decide | (simp; done) | (simp; omega)) (Nat.zero_le _) (by rfl) ?_
        simp only [AVal.cells]
        simp (decide := true) only [aOps_nil, ev, putD, Slots.get, Slots.keep, if_true, if_false, setAt, List.set_cons_zero, List.set_cons_succ, Nat.zero_add]
        repeat (with_reducible refine And.intro ?_ ?_; · first | trivial | omega | (intro hg; simp only [Bool.and_eq_true, Bool.or_eq_true, Bool.not_eq_true', Bool.and_eq_false_iff, Bool.or_eq_false_iff, Bool.not_eq_false', decide_eq_true_eq, decide_eq_false_iff_not, eqNil] at hg; omega) )
        change Awp _ _ _ _ _ _ _
        -- region 9  columns.go:171
        refine awp_r [1, 4, 6, 25, 26, 27] (by rfl) ?_
        simp (decide := true) only [aOps_nil, ev, absV, absS, putD, Slots.put, Slots.get, Slots.keep, if_true, if_false, true_and, ↓ap_binOp, pop_binOp, isNilC_int, cond_false, pBinX_int, pI_add, ↓ap_move, pop_move]
        try simp (disch := omega) only [wrap_i64]
        repeat (with_reducible refine And.intro ?_ ?_; · first | trivial | omega | (intro hg; simp only [Bool.and_eq_true, Bool.or_eq_true, Bool.not_eq_true', Bool.and_eq_false_iff, Bool.or_eq_false_iff, Bool.not_eq_false', decide_eq_true_eq, decide_eq_false_iff_not, eqNil] at hg; omega) )
        try simp only [thenA_normal]
        refine ⟨k + 1, rfl, ?_, by omega, by omega⟩
        first
        | (rw [atGo_take hk', if_pos hb3]; exact (by repeat (first | exact Sub.refl _ | assumption | refine Sub.set_both ?_ _ _ | refine Sub.trans_set ?_ (by repeat (first | assumption | refine (AHeap.set_ne _ _ (by first | assumption | exact Ne.symm (by assumption))).trans ?_)))))
        | (rw [atGo_take hk', if_neg hb3]; exact (by repeat (first | exact Sub.refl _ | assumption | refine Sub.set_both ?_ _ _ | refine Sub.trans_set ?_ (by repeat (first | assumption | refine (AHeap.set_ne _ _ (by first | assumption | exact Ne.symm (by assumption))).trans ?_)))))
      · try simp only [decide_eq_false_iff_not] at hb3
        refine awp_skip ?_
        change Awp _ _ _ _ _ _ _
        -- region 9  columns.go:171
        refine awp_r [1, 4, 6, 25, 26, 27] (by rfl) ?_
        simp (decide := true) only [aOps_nil, ev, absV, absS, putD, Slots.put, Slots.get, Slots.keep, if_true, if_false, true_and, ↓ap_binOp, pop_binOp, isNilC_int, cond_false, pBinX_int, pI_add, ↓ap_move, pop_move, posA]
        try simp (disch := omega) only [wrap_i64]
        repeat (with_reducible refine And.intro ?_ ?_; · first | trivial | omega | (intro hg; simp only [Bool.and_eq_true, Bool.or_eq_true, Bool.not_eq_true', Bool.and_eq_false_iff, Bool.or_eq_false_iff, Bool.not_eq_false', decide_eq_true_eq, decide_eq_false_iff_not, eqNil] at hg; omega) )
        try simp only [thenA_normal]
        refine ⟨k + 1, rfl, ?_, by omega, by omega⟩
        first
        | (rw [atGo_take hk', if_pos hb3]; exact (by repeat (first | exact Sub.refl _ | assumption | refine Sub.set_both ?_ _ _ | refine Sub.trans_set ?_ (by repeat (first | assumption | refine (AHeap.set_ne _ _ (by first | assumption | exact Ne.symm (by assumption))).trans ?_)))))
        | (rw [atGo_take hk', if_neg hb3]; exact (by repeat (first | exact Sub.refl _ | assumption | refine Sub.set_both ?_ _ _ | refine Sub.trans_set ?_ (by repeat (first | assumption | refine (AHeap.set_ne _ _ (by first | assumption | exact Ne.symm (by assumption))).trans ?_)))))
    · try simp only [decide_eq_false_iff_not] at hb2
      refine awp_exit ?_
      change Awp _ _ _ _ _ _ _
      -- region 10  columns.go:176
      refine awp_rseq [4, 5] (by rfl) fun K hK => ?_
      simp (decide := true) only [ev, putD, Slots.put, Slots.get, if_true, if_false, true_and, ↓ap_loadL, apL_mk, pLoad_agg ag32 sz32, rd_any, cellsAt, List.getD_cons_zero, List.getD_cons_succ, Nat.zero_add, lv_int, allLive, Bool.and_true]
      repeat (with_reducible refine And.intro ?_ ?_; · first | trivial | omega | (intro hg; simp only [Bool.and_eq_true, Bool.or_eq_true, Bool.not_eq_true', Bool.and_eq_false_iff, Bool.or_eq_false_iff, Bool.not_eq_false', decide_eq_true_eq, decide_eq_false_iff_not, eqNil] at hg; omega) )
      refine aOps_store (by rfl) (by rfl) (by repeat (first | exact AHeap.set_same _ _ _ | assumption | refine (AHeap.set_ne _ _ (by first | assumption | exact Ne.symm (by assumption))).trans ?_)) sz32 (by rfl) (by rfl) (by first | exact Nat.le_refl _ | decide | (simp; done) | (simp; omega)) (Nat.zero_le _) (by rfl) ?_
      simp only [AVal.cells]
      simp (decide := true) only [aOps_nil, ev, absV, absS, putD, Slots.put, Slots.get, Slots.keep, if_true, if_false, true_and, ↓ap_assign, pop_assign, setAt, List.set_cons_zero, List.set_cons_succ, Nat.zero_add]
      repeat (with_reducible refine And.intro ?_ ?_; · first | trivial | omega | (intro hg; simp only [Bool.and_eq_true, Bool.or_eq_true, Bool.not_eq_true', Bool.and_eq_false_iff, Bool.or_eq_false_iff, Bool.not_eq_false', decide_eq_true_eq, decide_eq_false_iff_not, eqNil] at hg; omega) )
      apply hK; clear hK K
      refine awp_ret ?_
      try simp only [thenA_ret, inBlockA_ret]
      refine retA_ret h (by repeat (first | exact Sub.refl _ | assumption | refine Sub.trans_set ?_ (by assumption))) (?_) ?_
      · simp (decide := true) only [resPre, resV_tmp, resV_cell, Slots.get, if_true, if_false, and_true, resV_tmp, resV_cell, pLoad_agg ag32 sz32, rd_set, cellsAt, List.getD_cons_zero, List.getD_cons_succ, Nat.zero_add, lv_int, allLive, Bool.and_true, cellsAt, List.getD_cons_zero, List.getD_cons_succ, Nat.zero_add, lv_int, allLive, Bool.and_true]
      
      simp (decide := true) only [Slots.get, if_true, if_false, and_true, resOfG_two, resV_tmp, resV_cell, pLoad_agg ag32 sz32, rd_set, cellsAt, List.getD_cons_zero, List.getD_cons_succ, Nat.zero_add, lv_int, allLive, Bool.and_true, cellsAt, List.getD_cons_zero, List.getD_cons_succ, Nat.zero_add, lv_int, allLive, Bool.and_true, posA]
      rw [hei, show k = c.marks.length by omega, List.take_length]
end Go.Proofs.YtikpnhdjjabdmaaDoor

/-
  Contracts: open, read, add of the package columns.
  Conditions: none.
-/
namespace Go.Proofs.YtikpnhdjjabdmaaDoor
open Go.AM
open Go.Proofs
open Go.Col
set_option maxRecDepth 100000

def rowA (r : RowC) : AVal := .agg [.int .i64 r.line, .bool r.more, .str r.text, .int .i64 r.col]
theorem quotes_le (s : Str) : quotes s ≤ s.length := List.countP_le_length
theorem c_open (w₀ : World) (h : AHeap) (s : Str) (hl : s.length ≤ 4611686018427387904) : ACall Tryd.prog w₀ 25 [.str s] h (fun v h' => v = .bool (oddQ s) ∧ h' = h) := by
  have hq := quotes_le s
  refine acall_intro (n := 7) (rs := [.tmp 2]) Tryd.func25 rfl rfl rfl rfl (Nat.le_of_ble_eq_true rfl) ?_
  simp only [initSlots]
  -- region 0  columns.go:41
  refine awp_rseq [0] (by rfl) fun K hK => ?_
  simp (decide := true) only [aOps_nil, ev, absV, absS, putD, Slots.put, Slots.keep, if_true, if_false, true_and, ↓ap_assign, pop_assign]
  repeat (with_reducible refine And.intro ?_ ?_; · first | trivial | omega | (intro hg; simp only [Bool.and_eq_true, Bool.or_eq_true, Bool.not_eq_true', Bool.and_eq_false_iff, Bool.or_eq_false_iff, Bool.not_eq_false', decide_eq_true_eq, decide_eq_false_iff_not, eqNil] at hg; omega) )
  apply hK; clear hK K
  -- region 1  columns.go:41
  refine awp_rseq [2] (by rfl) fun K hK => ?_
  simp (decide := true) only [ev, putD, Slots.put, Slots.get, if_true, if_false, true_and, ↓ap_move, pop_move]
  repeat (with_reducible refine And.intro ?_ ?_; · first | trivial | omega | (intro hg; simp only [Bool.and_eq_true, Bool.or_eq_true, Bool.not_eq_true', Bool.and_eq_false_iff, Bool.or_eq_false_iff, Bool.not_eq_false', decide_eq_true_eq, decide_eq_false_iff_not, eqNil] at hg; omega) )
  refine aOps_callV (V := .int .i64 (quotes s)) (by rfl) (by rfl) (c_count w₀ _ s 34) ?_
  simp (decide := true) only [aOps_nil, ev, absV, absS, putD, Slots.put, Slots.get, Slots.keep, if_true, if_false, true_and, ↓ap_binOp, pop_binOp, isNilC_int, cond_false, pBinX_int, pI_rem, pI_eql, ↓ap_assign, pop_assign]
  repeat (with_reducible refine And.intro ?_ ?_; · first | trivial | omega | (intro hg; simp only [Bool.and_eq_true, Bool.or_eq_true, Bool.not_eq_true', Bool.and_eq_false_iff, Bool.or_eq_false_iff, Bool.not_eq_false', decide_eq_true_eq, decide_eq_false_iff_not, eqNil] at hg; omega) )
  apply hK; clear hK K
  refine awp_ret ?_
  try simp only [thenA_ret, inBlockA_ret]
  refine retA_ret _ (Sub.refl _) (resPre_tmp (resPre_nil)) ?_
  simp (decide := true) only [Slots.get, if_true, and_true, resOf_one]
  unfold oddQ
  congr 1
  rw [Int.tmod_eq_emod_of_nonneg (by omega)]
  apply decide_eq_decide.2
  omega

theorem dropWhile_le (p : UInt8 → Bool) (s : Str) : (s.dropWhile p).length ≤ s.length := (List.dropWhile_sublist p).length_le
theorem trimR_le (s : Str) : (trimR s).length ≤ s.length := by
  unfold trimR
  rw [List.length_reverse]
  exact Nat.le_trans (dropWhile_le _ _) (by rw [List.length_reverse]; exact Nat.le_refl _)
theorem c_add (w₀ : World) (H : AHeap) (kx kc : Nat) (D : List AVal) (m : Nat) (mb : Option Buf) (c : CardC) (xl xc : Int) (xo : Bool) (line col : Int) (t : Str)
    (hkx : H kx = some ⟨[.slice (.own kc) 0 (m + 1) (.grow 3), .int .i64 xl, .int .i64 xc, .bool xo], 0⟩) (hkc : H kc = some ⟨D ++ [.bool c.left, .str c.text, bufV 3 mb], 0⟩) (hD : D.length = m * 3)
    (hok : bufOk H 3 mb) (hmb : bufC mb = (c.marks.map markC).flatten) (hl : c.text.length + t.length ≤ 1099511627776) (hml : c.marks.length ≤ 1099511627776) (hmm : m ≤ 1099511627776) :
    ACall Tryd.prog w₀ 56 [.ptr (.own kx) 0, .int .i64 line, .int .i64 col, .str t] (bufH H mb)
      (fun v h' => v = .tuple [] ∧ ∃ mb', h' = bufH ((H.set kx ⟨[.slice (.own kc) 0 (m + 1) (.grow 3), .int .i64 line, .int .i64 col, .bool (oddQ (c.text ++ t))], 0⟩).set kc ⟨D ++ [.bool c.left, .str (addC c line col t).text, bufV 3 mb'], 0⟩) mb' ∧
        bufOk ((H.set kx ⟨[.slice (.own kc) 0 (m + 1) (.grow 3), .int .i64 line, .int .i64 col, .bool (oddQ (c.text ++ t))], 0⟩).set kc ⟨D ++ [.bool c.left, .str (addC c line col t).text, bufV 3 mb'], 0⟩) 3 mb' ∧ bufC mb' = ((addC c line col t).marks.map markC).flatten) := by
  have hne : kx ≠ kc := fun e => by
    subst e
    rw [hkx] at hkc
    have := congrArg (fun o => (o.map fun b => b.cells.length).getD 0) hkc
    simp [hD] at this
    omega
  have rx := rdBuf w₀ hok hkx
  have rc := rdBuf w₀ hok hkc
  have hidx : ((((m + 1 : Nat) : Int)) - 1).toNat = m := by omega
  have hlv := bufV_live 3 mb
  refine acall_intro (n := 72) (rs := []) Tryd.func56 rfl rfl rfl rfl (Nat.le_of_ble_eq_true rfl) ?_
  simp only [initSlots]
  -- region 0  columns.go:89
  refine awp_dseq_all [0, 1, 2, 3, 8] mixed (by kernel_rfl) (by rfl) (by rfl) fun K hK => ?_
  simp (decide := true) only [ev, absV, absS, putD, Slots.put, Slots.get, if_true, if_false, true_and, ↓ap_move, pop_move, ↓ap_nilCheck, pop_nilCheck, pNil_ptr, ↓ap_fieldAddr, pop_fieldAddr, fa71_0, ↓ap_loadL, apL_mk, pLoad_one ag30, ↓ap_len, pop_len, pLen_slice Tryd.underlying30, ↓ap_binOp, pop_binOp, isNilC_int, cond_false, pBinX_int, pI_sub, List.getD_cons_zero, Nat.zero_add, Nat.reduceAdd, lv_slice, rx]
  try simp (disch := omega) only [wrap_i64]
  try simp (decide := true) only [aOps_nil, ev, putD, Slots.put, Slots.get, Slots.keep, if_true, if_false, true_and, ↓ap_indexAddrL, apL_mk, pIndexAddr_slice Tryd.underlying30 sz39, ↓ap_assign, pop_assign, Nat.zero_add, hidx]
  repeat (with_reducible refine And.intro ?_ ?_; · first | trivial | omega | (intro hg; simp only [Bool.and_eq_true, Bool.or_eq_true, Bool.not_eq_true', Bool.and_eq_false_iff, Bool.or_eq_false_iff, Bool.not_eq_false', decide_eq_true_eq, decide_eq_false_iff_not, eqNil] at hg; omega) )
  apply hK; clear hK K
  -- region 1  columns.go:90
  refine awp_rseq [0, 1, 2, 3, 8] (by rfl) fun K hK => ?_
  simp (decide := true) only [ev, putD, Slots.put, Slots.get, if_true, if_false, true_and, ↓ap_move, pop_move, ↓ap_nilCheck, pop_nilCheck, pNil_ptr, ↓ap_fieldAddr, pop_fieldAddr, fa39_1, ↓ap_loadL, apL_mk, pLoad_one ag9, ↓ap_binOp, pop_binOp, isNilC_tmp, cond_false, pBinX_str, pS_add, List.getD_cons_zero, List.getD_cons_succ, lv_str, rc, getD_app hD]
  repeat (with_reducible refine And.intro ?_ ?_; · first | trivial | omega | (intro hg; simp only [Bool.and_eq_true, Bool.or_eq_true, Bool.not_eq_true', Bool.and_eq_false_iff, Bool.or_eq_false_iff, Bool.not_eq_false', decide_eq_true_eq, decide_eq_false_iff_not, eqNil] at hg; omega) )
  refine aOps_callV (V := .bool (oddQ (c.text ++ t))) (by rfl) (by rfl) (c_open w₀ _ _ (by simp; omega)) ?_
  simp (decide := true) only [ev, putD, Slots.put, Slots.get, if_true, if_false, true_and, ↓ap_nilCheck, pop_nilCheck, pNil_ptr, ↓ap_fieldAddr, pop_fieldAddr, fa71_2, Nat.zero_add]
  repeat (with_reducible refine And.intro ?_ ?_; · first | trivial | omega | (intro hg; simp only [Bool.and_eq_true, Bool.or_eq_true, Bool.not_eq_true', Bool.and_eq_false_iff, Bool.or_eq_false_iff, Bool.not_eq_false', decide_eq_true_eq, decide_eq_false_iff_not, eqNil] at hg; omega) )
  refine aOps_store (v := .bool (oddQ (c.text ++ t))) (by rfl) (by rfl) (bufAt hok hkx) sz4 (by rfl) (by rfl) (by simp) (Nat.zero_le _) (by rfl) ?_
  simp only [setAt, AVal.cells, List.set_cons_zero, List.set_cons_succ]
  rw [bufSet hok hkx]
  simp (decide := true) only [aOps_nil, putD, Slots.keep, if_true, if_false]
  have hok1 := bufOkSet hok hkx ⟨[.slice (.own kc) 0 (m + 1) (.grow 3), .int .i64 xl, .int .i64 xc, .bool (oddQ (c.text ++ t))], 0⟩
  have hkx1 := AHeap.set_same H kx ⟨[.slice (.own kc) 0 (m + 1) (.grow 3), .int .i64 xl, .int .i64 xc, .bool (oddQ (c.text ++ t))], 0⟩
  have hkc1 := (AHeap.set_ne H ⟨[.slice (.own kc) 0 (m + 1) (.grow 3), .int .i64 xl, .int .i64 xc, .bool (oddQ (c.text ++ t))], 0⟩ hne.symm).trans hkc
  have rx1 := rdBuf w₀ hok1 hkx1
  apply hK; clear hK K
  refine awp_seq ?_
  -- region 2  columns.go:91
  refine awp_rseq [0, 1, 2, 3, 8, 34] (by rfl) fun K hK => ?_
  simp (decide := true) only [aOps_nil, ev, putD, Slots.put, Slots.get, Slots.keep, if_true, if_false, true_and, ↓ap_move, pop_move, ↓ap_nilCheck, pop_nilCheck, pNil_ptr, ↓ap_fieldAddr, pop_fieldAddr, fa71_2, ↓ap_loadL, apL_mk, pLoad_one ag4, ↓ap_unOp, pop_unOp, pU_not, List.getD_cons_zero, List.getD_cons_succ, Nat.zero_add, lv_bool, rx1]
  try simp (disch := omega) only [wrap_i64, wrap_u8]
  repeat (with_reducible refine And.intro ?_ ?_; · first | trivial | omega | (intro hg; simp only [Bool.and_eq_true, Bool.or_eq_true, Bool.not_eq_true', Bool.and_eq_false_iff, Bool.or_eq_false_iff, Bool.not_eq_false', decide_eq_true_eq, decide_eq_false_iff_not, eqNil] at hg; omega) )
  apply hK; clear hK K
  refine awp_joinT [0, 1, 2, 3, 8] (fun t' : Str => [(0, .ptr (.own kx) 0), (1, .int .i64 line), (2, .int .i64 col), (3, .str t'), (8, .ptr (.own kc) (m * 3))]) (fun t' : Str => bufH (H.set kx ⟨[.slice (.own kc) 0 (m + 1) (.grow 3), .int .i64 xl, .int .i64 xc, .bool (oddQ (c.text ++ t))], 0⟩) mb) (fun t' : Str => t' = if oddQ (c.text ++ t) = true then t else trimR t) ?_ ?_
  · refine awp_cond (b := _) rfl (fun hb1 => ?_) (fun hb1 => ?_)
    · try simp only [Bool.not_eq_true'] at hb1
      -- region 3  columns.go:92
      refine awp_r [0, 1, 2, 3, 8] (by rfl) ?_
      simp (decide := true) only [ev, putD, Slots.put, Slots.get, if_true, if_false, true_and, ↓ap_move, pop_move]
      repeat (with_reducible refine And.intro ?_ ?_; · first | trivial | omega | (intro hg; simp only [Bool.and_eq_true, Bool.or_eq_true, Bool.not_eq_true', Bool.and_eq_false_iff, Bool.or_eq_false_iff, Bool.not_eq_false', decide_eq_true_eq, decide_eq_false_iff_not, eqNil] at hg; omega) )
      refine aOps_callV (V := .str (trimR t)) (by rfl) (by rfl) (c_trimR w₀ _ t (by omega)) ?_
      simp (decide := true) only [aOps_nil, ev, putD, Slots.put, Slots.get, Slots.keep, if_true, if_false, true_and, ↓ap_assign, pop_assign]
      repeat (with_reducible refine And.intro ?_ ?_; · first | trivial | omega | (intro hg; simp only [Bool.and_eq_true, Bool.or_eq_true, Bool.not_eq_true', Bool.and_eq_false_iff, Bool.or_eq_false_iff, Bool.not_eq_false', decide_eq_true_eq, decide_eq_false_iff_not, eqNil] at hg; omega) )
      try simp only [thenA_normal]
      first | exact ⟨trimR t, rfl, Sub.refl _, by rw [hb1]; rfl⟩ | exact ⟨t, rfl, Sub.refl _, by rw [hb1]; rfl⟩
    · try simp only [Bool.not_eq_false'] at hb1
      refine awp_skip ?_
      try simp only [thenA_normal]
      first | exact ⟨trimR t, rfl, Sub.refl _, by rw [hb1]; rfl⟩ | exact ⟨t, rfl, Sub.refl _, by rw [hb1]; rfl⟩
  · intro t' ht'
    have htl : t'.length ≤ t.length := by
      rw [ht']
      have := trimR_le t
      split <;> omega
    have ha : addC c line col t = ⟨c.left, c.text ++ t', if t' = [] then c.marks else c.marks ++ [⟨c.text.length, line, col⟩]⟩ := by rw [ht']; rfl
    -- region 4  columns.go:94
    refine awp_rseq [0, 3, 8] (by rfl) fun K hK => ?_
    simp (decide := true) only [ev, absV, absS, putD, Slots.put, Slots.get, if_true, if_false, true_and, ↓ap_move, pop_move, ↓ap_build, ↓pop_buildL, bld32_0_1, evP, List.map_cons, List.map_nil, ↓ap_nilCheck, pop_nilCheck, pNil_ptr, ↓ap_fieldAddr, pop_fieldAddr, fa71_1, Nat.zero_add]
    repeat (with_reducible refine And.intro ?_ ?_; · first | trivial | omega | (intro hg; simp only [Bool.and_eq_true, Bool.or_eq_true, Bool.not_eq_true', Bool.and_eq_false_iff, Bool.or_eq_false_iff, Bool.not_eq_false', decide_eq_true_eq, decide_eq_false_iff_not, eqNil] at hg; omega) )
    refine aOps_store (v := .agg [.int .i64 line, .int .i64 col]) (by rfl) (by rfl) (bufAt hok1 hkx1) sz32 (by rfl) (by rfl) (by simp []) (Nat.zero_le _) (by rfl) ?_
    simp only [setAt, AVal.cells, List.set_cons_zero, List.set_cons_succ, Nat.reduceAdd]
    rw [bufSet hok1 hkx1, AHeap.set_set]
    simp (decide := true) only [aOps_nil, putD, Slots.keep, if_true, if_false]
    obtain ⟨H2, hH2⟩ : ∃ H2, H2 = H.set kx ⟨[.slice (.own kc) 0 (m + 1) (.grow 3), .int .i64 line, .int .i64 col, .bool (oddQ (c.text ++ t))], 0⟩ := ⟨_, rfl⟩
    have hok2 : bufOk H2 3 mb := by rw [hH2]; exact bufOkSet hok hkx _
    have hkx2 : H2 kx = some ⟨[.slice (.own kc) 0 (m + 1) (.grow 3), .int .i64 line, .int .i64 col, .bool (oddQ (c.text ++ t))], 0⟩ := by rw [hH2]; exact AHeap.set_same _ _ _
    have hkc2 : H2 kc = some ⟨D ++ [.bool c.left, .str c.text, bufV 3 mb], 0⟩ := by rw [hH2]; exact (AHeap.set_ne _ _ hne.symm).trans hkc
    rw [← hH2]
    have rx2 := rdBuf w₀ hok2 hkx2
    have rc2 := rdBuf w₀ hok2 hkc2
    apply hK; clear hK K
    refine awp_seq ?_
    -- region 5  columns.go:95
    refine awp_rseq [0, 3, 8, 44] (by rfl) fun K hK => ?_
    simp (decide := true) only [aOps_nil, ev, absV, absS, putD, Slots.put, Slots.get, Slots.keep, if_true, if_false, true_and, ↓ap_move, pop_move, ↓ap_binOp, pop_binOp, isNilC_str, cond_false, pBinX_str, pS_neq]
    repeat (with_reducible refine And.intro ?_ ?_; · first | trivial | omega | (intro hg; simp only [Bool.and_eq_true, Bool.or_eq_true, Bool.not_eq_true', Bool.and_eq_false_iff, Bool.or_eq_false_iff, Bool.not_eq_false', decide_eq_true_eq, decide_eq_false_iff_not, eqNil] at hg; omega) )
    apply hK; clear hK K
    refine awp_cond (b := _) rfl (fun hb2 => ?_) (fun hb2 => ?_)
    · try simp only [decide_eq_false_iff_not, Bool.not_eq_true'] at hb2
      -- region 6  columns.go:96
      refine awp_draw_F 16 [0] mixed (by kernel_rfl) (by rfl) ?_
      simp only [List.take_succ_cons, List.take_zero, List.drop_succ_cons, List.drop_zero]
      simp (decide := true) only [ev, absV, absS, putD, Slots.put, Slots.get, if_true, if_false, true_and, ↓fp_move, pop_move, ↓fp_nilCheck, pop_nilCheck, pNil_ptr, ↓fp_fieldAddr, pop_fieldAddr, fa39_2, ↓fp_load, pop_load, pLoad_one ag37, fa39_1, pLoad_one ag9, ↓fp_len, pop_len, pLen_str Tryd.underlying9, fa71_1, pLoad_agg ag32 sz32, ↓fp_build, ↓pop_buildL, bld57_0_1, evP, List.map_cons, List.map_nil, cellsAt, List.getD_cons_zero, List.getD_cons_succ, Nat.zero_add, Nat.reduceAdd, lv_int, lv_str, allLive, Bool.and_true, rx2, rc2, hlv, getD_app hD]
      repeat (with_reducible refine And.intro ?_ ?_; · first | trivial | omega | (intro hg; simp only [Bool.and_eq_true, Bool.or_eq_true, Bool.not_eq_true', Bool.and_eq_false_iff, Bool.or_eq_false_iff, Bool.not_eq_false', decide_eq_true_eq, decide_eq_false_iff_not, eqNil] at hg; omega) )
      refine fOps_lay (by rfl) ?_
      refine aOps_buildSlice (cs := [.int .i64 c.text.length, .int .i64 line, .int .i64 col]) (by kernel_rfl) fun k6q15 hk6q15 => ?_
      try have hf_6q15 : ((bufH H mb)) k6q15 = none := by first | assumption | (simp only [AHeap.set_none] at hk6q15; simp only [hk6q15])
      rw [aOps_nil]
      repeat (with_reducible refine And.intro ?_ ?_; · first | trivial | omega | (intro hg; simp only [Bool.and_eq_true, Bool.or_eq_true, Bool.not_eq_true', Bool.and_eq_false_iff, Bool.or_eq_false_iff, Bool.not_eq_false', decide_eq_true_eq, decide_eq_false_iff_not, eqNil] at hg; omega) )
      try simp only [fOps_nil]
      refine aOps_appendL (es := 3) (zs := c.marks.map markC) (xs := [[.int .i64 c.text.length, .int .i64 line, .int .i64 col]]) (h₀ := H2) (b := mb) (by rfl) (by rfl) Tryd.underlying37 Tryd.underlying37 (fun k e => by cases e) sz57 by57 ze57 (by rfl) (by decide) (by rfl) hok2 hmb (by simp [markC]) (Sub.set hk6q15) (by rfl) (IsL.own (AHeap.set_same _ _ _) (by simp) (by rfl) (by rfl) (.exact 1) (Nat.le_refl _)) (by rfl) (by simp; omega) (by simp; omega) fun mb' h6 o1 o2 o3 => ?_
      have hlv' := bufV_live 3 mb'
      simp (decide := true) only [ev, putD, Slots.put, Slots.get, if_true, if_false, true_and, ↓ap_nilCheck, pop_nilCheck, pNil_ptr, ↓ap_fieldAddr, pop_fieldAddr, fa39_2]
      repeat (with_reducible refine And.intro ?_ ?_; · first | trivial | omega | (intro hg; simp only [Bool.and_eq_true, Bool.or_eq_true, Bool.not_eq_true', Bool.and_eq_false_iff, Bool.or_eq_false_iff, Bool.not_eq_false', decide_eq_true_eq, decide_eq_false_iff_not, eqNil] at hg; omega) )
      refine aOps_store (v := bufV 3 mb') (by rfl) (by rfl) (o3 _ _ (bufAt o1 hkc2)) sz37 hlv' (by cases mb' <;> rfl) (by cases mb' <;> simp [hD, bufV]) (Nat.zero_le _) (by cases mb' <;> rfl) ?_
      simp only []
      rw [show (bufV 3 mb').cells = [bufV 3 mb'] by cases mb' <;> rfl, setAt_app hD]
      simp only [setAt, List.set_cons_zero, List.set_cons_succ]
      simp (decide := true) only [aOps_nil, putD]
      repeat (with_reducible refine And.intro ?_ ?_; · first | trivial | omega | (intro hg; simp only [Bool.and_eq_true, Bool.or_eq_true, Bool.not_eq_true', Bool.and_eq_false_iff, Bool.or_eq_false_iff, Bool.not_eq_false', decide_eq_true_eq, decide_eq_false_iff_not, eqNil] at hg; omega) )
      change Awp _ _ _ _ _ _ _
      -- region 7  columns.go:98
      refine awp_r [] (by rfl) ?_
      simp (decide := true) only [ev, putD, Slots.put, Slots.get, if_true, if_false, true_and, ↓ap_move, pop_move, ↓ap_nilCheck, pop_nilCheck, pNil_ptr, ↓ap_fieldAddr, pop_fieldAddr, fa39_1, ↓ap_loadL, apL_mk, pLoad_one ag9, ↓ap_binOp, pop_binOp, isNilC_tmp, cond_false, pBinX_str, pS_add, rd_any, List.getD_cons_zero, List.getD_cons_succ, lv_str, getD_app hD]
      repeat (with_reducible refine And.intro ?_ ?_; · first | trivial | omega | (intro hg; simp only [Bool.and_eq_true, Bool.or_eq_true, Bool.not_eq_true', Bool.and_eq_false_iff, Bool.or_eq_false_iff, Bool.not_eq_false', decide_eq_true_eq, decide_eq_false_iff_not, eqNil] at hg; omega) )
      skip
      first
      | refine aOps_store (v := .str (c.text ++ t')) (by rfl) (by rfl) (AHeap.set_same _ _ _) sz9 (by rfl) (by rfl) (by simp [hD]) (Nat.zero_le _) (by rfl) ?_
      | refine aOps_store (v := .str (c.text ++ t')) (by rfl) (by rfl) (bufAt hok2 hkc2) sz9 (by rfl) (by rfl) (by simp [AVal.cells, hD]) (Nat.zero_le _) (by rfl) ?_
      simp only [AVal.cells]
      rw [setAt_app hD]
      simp only [setAt, List.set_cons_zero, List.set_cons_succ]
      simp (decide := true) only [aOps_nil, putD, Slots.keep, if_false]
      repeat (with_reducible refine And.intro ?_ ?_; · first | trivial | omega | (intro hg; simp only [Bool.and_eq_true, Bool.or_eq_true, Bool.not_eq_true', Bool.and_eq_false_iff, Bool.or_eq_false_iff, Bool.not_eq_false', decide_eq_true_eq, decide_eq_false_iff_not, eqNil] at hg; omega) )
      try simp only [thenA_ret, inBlockA_ret]
      refine retA_endE (resPre_nil) ?_
      simp (decide := true) only [true_and, resOf_nil]
      refine ⟨bufH (H2.set kc ⟨D ++ [.bool c.left, .str (c.text ++ t'), bufV 3 mb'], 0⟩) mb', ?_, mb', ?_, ?_, ?_⟩
      · rw [AHeap.set_set, ← bufSet o1 hkc2]
        exact Sub.set_both o3 _ _
      · rw [hH2, ha]
      · rw [ha, ← hH2]
        exact bufOkSet o1 hkc2 _
      · rw [ha, o2, if_neg hb2, List.map_append]
        rfl
    · try simp only [decide_eq_true_eq, Bool.not_eq_false'] at hb2
      refine awp_skip ?_
      change Awp _ _ _ _ _ _ _
      -- region 7  columns.go:98
      refine awp_r [] (by rfl) ?_
      simp (decide := true) only [ev, putD, Slots.put, Slots.get, if_true, if_false, true_and, ↓ap_move, pop_move, ↓ap_nilCheck, pop_nilCheck, pNil_ptr, ↓ap_fieldAddr, pop_fieldAddr, fa39_1, ↓ap_loadL, apL_mk, pLoad_one ag9, ↓ap_binOp, pop_binOp, isNilC_tmp, cond_false, pBinX_str, pS_add, List.getD_cons_zero, List.getD_cons_succ, lv_str, rc2, getD_app hD]
      repeat (with_reducible refine And.intro ?_ ?_; · first | trivial | omega | (intro hg; simp only [Bool.and_eq_true, Bool.or_eq_true, Bool.not_eq_true', Bool.and_eq_false_iff, Bool.or_eq_false_iff, Bool.not_eq_false', decide_eq_true_eq, decide_eq_false_iff_not, eqNil] at hg; omega) )
      skip
      first
      | refine aOps_store (v := .str (c.text ++ t')) (by rfl) (by rfl) (AHeap.set_same _ _ _) sz9 (by rfl) (by rfl) (by simp [AVal.cells, hD]) (Nat.zero_le _) (by rfl) ?_
      | refine aOps_store (v := .str (c.text ++ t')) (by rfl) (by rfl) (bufAt hok2 hkc2) sz9 (by rfl) (by rfl) (by simp [hD]) (Nat.zero_le _) (by rfl) ?_
      simp only [AVal.cells]
      rw [setAt_app hD]
      simp only [setAt, List.set_cons_zero, List.set_cons_succ]
      simp (decide := true) only [aOps_nil, putD, Slots.keep, if_false]
      repeat (with_reducible refine And.intro ?_ ?_; · first | trivial | omega | (intro hg; simp only [Bool.and_eq_true, Bool.or_eq_true, Bool.not_eq_true', Bool.and_eq_false_iff, Bool.or_eq_false_iff, Bool.not_eq_false', decide_eq_true_eq, decide_eq_false_iff_not, eqNil] at hg; omega) )
      try simp only [thenA_ret, inBlockA_ret]
      refine retA_endE (resPre_nil) ?_
      simp (decide := true) only [true_and, resOf_nil]
      refine ⟨bufH (H2.set kc ⟨D ++ [.bool c.left, .str (c.text ++ t'), bufV 3 mb], 0⟩) mb, ?_, mb, ?_, ?_, ?_⟩
      · rw [← bufSet hok2 hkc2]
        exact Sub.refl _
      · rw [hH2, ha]
      · rw [ha, ← hH2]
        exact bufOkSet hok2 hkc2 _
      · rw [ha, hmb, if_pos hb2]

theorem u8_eq (b c : UInt8) : ((b.toNat : Int) = (c.toNat : Int)) = (b = c) := by
  apply propext
  constructor
  · intro h
    exact UInt8.toNat_inj.1 (by omega)
  · rintro rfl; rfl
theorem padE_len {s : Str} (h : s.length ≤ 80) : 72 ≤ (padE s).length ∧ (padE s).length ≤ 80 := by
  unfold padE sp
  rw [List.length_append, List.length_replicate]
  omega
theorem trimL_le (s : Str) : (trimL s).length ≤ s.length := dropWhile_le _ _
theorem badI_cases (s : Str) : (badAt s = none ∧ badI s = -1) ∨ ∃ i, badAt s = some i ∧ badI s = (i : Int) ∧ i < s.length := by
  unfold badI
  cases h : badAt s with
  | none => exact .inl ⟨rfl, rfl⟩
  | some i => exact .inr ⟨i, rfl, rfl, (List.findIdx?_eq_some_iff_findIdx_eq.1 h).1⟩
theorem lineE_none {s : Str} {line : Int} {dbg : Bool} (h80 : ¬ 80 < s.length) (hb : badAt s = none) : lineE s line dbg =
    if (padE s).getD 6 0 = 42 ∨ (padE s).getD 6 0 = 47 then (rowE s line, false, okF)
    else if (padE s).getD 6 0 = 68 ∨ (padE s).getD 6 0 = 100 then (rowE s line, dbg && !decide ((rowE s line).text = []), okF)
    else if (padE s).getD 6 0 = 32 ∨ (padE s).getD 6 0 = 45 then (rowE s line, !decide ((rowE s line).text = []), okF)
    else (rowE s line, false, ⟨4, line, 7⟩) := by
  unfold lineE
  rw [if_neg h80, hb]
theorem c_read (w₀ : World) (h : AHeap) (s : Str) (line : Int) (dbg : Bool) (hl : s.length ≤ 9223372036854775807) (l0 : 0 ≤ line) (l1 : line ≤ 1099511627776) : ACall Tryd.prog w₀ 31 [.str s, .int .i64 line, .bool dbg] h (fun v h' => v = .tuple [rowA (lineE s line dbg).1, .bool (lineE s line dbg).2.1, faultA (lineE s line dbg).2.2] ∧ h' = h) := by
  have w6 : (6 : Int).toNat = 6 := rfl
  have w7 : (7 : Int).toNat = 7 := rfl
  have w72 : (72 : Int).toNat = 72 := rfl
  have w8 : (8 : Int) + ((65 : Nat) : Int) = 73 := rfl
  refine acall_intro (n := 79) (rs := [.cell 6 73, .tmp 7, .cell 8 34]) Tryd.func31 rfl rfl rfl rfl (Nat.le_of_ble_eq_true rfl) ?_
  simp only [initSlots]
  -- region 0  columns.go:57
  refine awp_rseq [0, 1, 2, 6, 8] (by rfl) fun K hK => ?_
  refine aOps_alloc ze73 (cs := [.int .i64 0, .bool false, .str [], .int .i64 0]) (by rfl) fun k0q0 hk0q0 => ?_
  try have hf_0q0 : h k0q0 = none := by first | assumption | (simp only [AHeap.set_none] at hk0q0; simp only [hk0q0])
  simp (decide := true) only [ev, absV, absS, putD, Slots.put, if_false, true_and, ↓ap_assign, pop_assign, Nat.zero_add, Nat.reduceAdd]
  repeat (with_reducible refine And.intro ?_ ?_; · first | trivial | omega | (intro hg; simp only [Bool.and_eq_true, Bool.or_eq_true, Bool.not_eq_true', Bool.and_eq_false_iff, Bool.or_eq_false_iff, Bool.not_eq_false', decide_eq_true_eq, decide_eq_false_iff_not, eqNil] at hg; omega) )
  refine aOps_alloc ze34 (cs := [.int .i64 0, .int .i64 0, .int .i64 0]) (by rfl) fun k0q2 hk0q2 => ?_
  have ne_0q2_0q0 : k0q2 ≠ k0q0 := by simp only [AHeap.set_none] at hk0q2; simp only [hk0q2, ne_eq, not_false_eq_true]
  try have hf_0q2 : h k0q2 = none := by first | assumption | (simp only [AHeap.set_none] at hk0q2; simp only [hk0q2])
  simp (decide := true) only [aOps_nil, putD, Slots.put, Slots.keep, if_true, if_false]
  repeat (with_reducible refine And.intro ?_ ?_; · first | trivial | omega | (intro hg; simp only [Bool.and_eq_true, Bool.or_eq_true, Bool.not_eq_true', Bool.and_eq_false_iff, Bool.or_eq_false_iff, Bool.not_eq_false', decide_eq_true_eq, decide_eq_false_iff_not, eqNil] at hg; omega) )
  apply hK; clear hK K
  refine awp_seq ?_
  -- region 1  columns.go:58
  refine awp_rseq [0, 1, 2, 6, 8, 16] (by rfl) fun K hK => ?_
  simp (decide := true) only [aOps_nil, ev, absV, absS, putD, Slots.put, Slots.get, Slots.keep, if_true, if_false, true_and, ↓ap_move, pop_move, ↓ap_len, pop_len, pLen_str Tryd.underlying9, ↓ap_binOp, pop_binOp, isNilC_int, cond_false, pBinX_int, pI_gtr]
  repeat (with_reducible refine And.intro ?_ ?_; · first | trivial | omega | (intro hg; simp only [Bool.and_eq_true, Bool.or_eq_true, Bool.not_eq_true', Bool.and_eq_false_iff, Bool.or_eq_false_iff, Bool.not_eq_false', decide_eq_true_eq, decide_eq_false_iff_not, eqNil] at hg; omega) )
  apply hK; clear hK K
  refine awp_cond (b := _) rfl (fun hb1 => ?_) (fun hb1 => ?_)
  · try simp only [decide_eq_true_eq] at hb1
    -- region 2  columns.go:59
    refine awp_rseq [6, 7, 8] (by rfl) fun K hK => ?_
    simp (decide := true) only [ev, absV, absS, putD, Slots.put, Slots.get, if_true, if_false, true_and, ↓ap_build, ↓pop_buildL, bld73_, evP, List.map_nil, ↓ap_move, pop_move]
    repeat (with_reducible refine And.intro ?_ ?_; · first | trivial | omega | (intro hg; simp only [Bool.and_eq_true, Bool.or_eq_true, Bool.not_eq_true', Bool.and_eq_false_iff, Bool.or_eq_false_iff, Bool.not_eq_false', decide_eq_true_eq, decide_eq_false_iff_not, eqNil] at hg; omega) )
    refine aOps_callV (V := faultA ⟨5, line, 81⟩) (by rfl) (by rfl) (c_fault w₀ _ 5 line 81) ?_
    refine aOps_store (by rfl) (by rfl) (by repeat (first | exact AHeap.set_same _ _ _ | assumption | refine (AHeap.set_ne _ _ (by first | assumption | exact Ne.symm (by assumption))).trans ?_)) sz73 (by rfl) (by rfl) (by first | exact Nat.le_refl _ | decide | (simp; done) | (simp; omega)) (Nat.zero_le _) (by rfl) ?_
    simp only [AVal.cells]
    simp (decide := true) only [ev, absV, absS, putD, Slots.put, Slots.get, if_true, if_false, true_and, ↓ap_assign, pop_assign, setAt, List.set_cons_zero, List.set_cons_succ, Nat.zero_add, Nat.reduceAdd, faultA]
    repeat (with_reducible refine And.intro ?_ ?_; · first | trivial | omega | (intro hg; simp only [Bool.and_eq_true, Bool.or_eq_true, Bool.not_eq_true', Bool.and_eq_false_iff, Bool.or_eq_false_iff, Bool.not_eq_false', decide_eq_true_eq, decide_eq_false_iff_not, eqNil] at hg; omega) )
    refine aOps_store (by rfl) (by rfl) (by repeat (first | exact AHeap.set_same _ _ _ | assumption | refine (AHeap.set_ne _ _ (by first | assumption | exact Ne.symm (by assumption))).trans ?_)) sz34 (by rfl) (by rfl) (by first | exact Nat.le_refl _ | decide | (simp; done) | (simp; omega)) (Nat.zero_le _) (by rfl) ?_
    simp only [AVal.cells]
    simp (decide := true) only [aOps_nil, ev, putD, Slots.get, Slots.keep, if_true, if_false, setAt, List.set_cons_zero, List.set_cons_succ, Nat.zero_add, Nat.reduceAdd]
    repeat (with_reducible refine And.intro ?_ ?_; · first | trivial | omega | (intro hg; simp only [Bool.and_eq_true, Bool.or_eq_true, Bool.not_eq_true', Bool.and_eq_false_iff, Bool.or_eq_false_iff, Bool.not_eq_false', decide_eq_true_eq, decide_eq_false_iff_not, eqNil] at hg; omega) )
    apply hK; clear hK K
    refine awp_ret ?_
    try simp only [thenA_ret]
    refine retA_ret h (by repeat (first | exact Sub.refl _ | assumption | refine Sub.trans_set ?_ (by assumption))) (?_) ?_
    · simp (decide := true) only [resPre, resV_tmp, resV_cell, Slots.get, if_true, if_false, and_true, resV_tmp, resV_cell, pLoad_agg ag73 sz73, pLoad_agg ag34 sz34, rd_set, cellsAt, List.getD_cons_zero, List.getD_cons_succ, Nat.zero_add, Nat.reduceAdd, lv_bool, lv_int, lv_str, allLive, Bool.and_true, rd_ne', ne_eq, not_false_eq_true, ne_0q2_0q0.symm, cellsAt, List.getD_cons_zero, List.getD_cons_succ, Nat.zero_add, Nat.reduceAdd, lv_bool, lv_int, lv_str, allLive, Bool.and_true]
    
    simp (decide := true) only [Slots.get, if_true, if_false, and_true, resOfG_three, resV_tmp, resV_cell, pLoad_agg ag73 sz73, pLoad_agg ag34 sz34, rd_set, cellsAt, List.getD_cons_zero, List.getD_cons_succ, Nat.zero_add, Nat.reduceAdd, lv_bool, lv_int, lv_str, allLive, Bool.and_true, rd_ne', ne_eq, not_false_eq_true, ne_0q2_0q0.symm, cellsAt, List.getD_cons_zero, List.getD_cons_succ, Nat.zero_add, Nat.reduceAdd, lv_bool, lv_int, lv_str, allLive, Bool.and_true, faultA, rowA]
    unfold lineE
    rw [if_pos (by omega)]
    rfl
  · try simp only [decide_eq_false_iff_not] at hb1
    have h80 : ¬ 80 < s.length := by omega
    refine awp_skip ?_
    change Awp _ _ _ _ _ _ _
    refine awp_seq ?_
    -- region 3  columns.go:61
    refine awp_rseq [0, 1, 2, 6, 8, 9] (by rfl) fun K hK => ?_
    simp (decide := true) only [ev, putD, Slots.put, Slots.get, if_true, if_false, true_and, ↓ap_move, pop_move]
    repeat (with_reducible refine And.intro ?_ ?_; · first | trivial | omega | (intro hg; simp only [Bool.and_eq_true, Bool.or_eq_true, Bool.not_eq_true', Bool.and_eq_false_iff, Bool.or_eq_false_iff, Bool.not_eq_false', decide_eq_true_eq, decide_eq_false_iff_not, eqNil] at hg; omega) )
    refine aOps_callV (V := .int .i64 (badI s)) (by rfl) (by rfl) (c_bad w₀ _ s) ?_
    simp (decide := true) only [aOps_nil, ev, putD, Slots.put, Slots.get, Slots.keep, if_true, if_false, true_and, ↓ap_assign, pop_assign]
    repeat (with_reducible refine And.intro ?_ ?_; · first | trivial | omega | (intro hg; simp only [Bool.and_eq_true, Bool.or_eq_true, Bool.not_eq_true', Bool.and_eq_false_iff, Bool.or_eq_false_iff, Bool.not_eq_false', decide_eq_true_eq, decide_eq_false_iff_not, eqNil] at hg; omega) )
    apply hK; clear hK K
    -- region 4  columns.go:61
    refine awp_rseq [0, 1, 2, 6, 8, 9, 23] (by rfl) fun K hK => ?_
    simp (decide := true) only [aOps_nil, ev, absV, absS, putD, Slots.put, Slots.get, Slots.keep, if_true, if_false, true_and, ↓ap_move, pop_move, ↓ap_binOp, pop_binOp, isNilC_int, cond_false, pBinX_int, pI_geq]
    repeat (with_reducible refine And.intro ?_ ?_; · first | trivial | omega | (intro hg; simp only [Bool.and_eq_true, Bool.or_eq_true, Bool.not_eq_true', Bool.and_eq_false_iff, Bool.or_eq_false_iff, Bool.not_eq_false', decide_eq_true_eq, decide_eq_false_iff_not, eqNil] at hg; omega) )
    apply hK; clear hK K
    refine awp_cond (b := _) rfl (fun hb2 => ?_) (fun hb2 => ?_)
    · try simp only [decide_eq_true_eq] at hb2
      obtain ⟨i, hi1, hi2, hi3⟩ := (badI_cases s).resolve_left (fun e => by omega)
      rw [hi2]
      -- region 5  columns.go:62
      refine awp_rseq [6, 7, 8] (by rfl) fun K hK => ?_
      simp (decide := true) only [ev, absV, absS, putD, Slots.put, Slots.get, if_true, if_false, true_and, ↓ap_build, ↓pop_buildL, bld73_, evP, List.map_nil, ↓ap_move, pop_move, ↓ap_binOp, pop_binOp, isNilC_int, cond_false, pBinX_int, pI_add]
      try simp (disch := omega) only [wrap_i64]
      repeat (with_reducible refine And.intro ?_ ?_; · first | trivial | omega | (intro hg; simp only [Bool.and_eq_true, Bool.or_eq_true, Bool.not_eq_true', Bool.and_eq_false_iff, Bool.or_eq_false_iff, Bool.not_eq_false', decide_eq_true_eq, decide_eq_false_iff_not, eqNil] at hg; omega) )
      refine aOps_callV (V := faultA ⟨4, line, (i : Int) + 1⟩) (by rfl) (by rfl) (c_fault w₀ _ 4 line ((i : Int) + 1)) ?_
      refine aOps_store (by rfl) (by rfl) (by repeat (first | exact AHeap.set_same _ _ _ | assumption | refine (AHeap.set_ne _ _ (by first | assumption | exact Ne.symm (by assumption))).trans ?_)) sz73 (by rfl) (by rfl) (by first | exact Nat.le_refl _ | decide | (simp; done) | (simp; omega)) (Nat.zero_le _) (by rfl) ?_
      simp only [AVal.cells]
      simp (decide := true) only [ev, absV, absS, putD, Slots.put, Slots.get, if_true, if_false, true_and, ↓ap_assign, pop_assign, setAt, List.set_cons_zero, List.set_cons_succ, Nat.zero_add, Nat.reduceAdd, faultA]
      repeat (with_reducible refine And.intro ?_ ?_; · first | trivial | omega | (intro hg; simp only [Bool.and_eq_true, Bool.or_eq_true, Bool.not_eq_true', Bool.and_eq_false_iff, Bool.or_eq_false_iff, Bool.not_eq_false', decide_eq_true_eq, decide_eq_false_iff_not, eqNil] at hg; omega) )
      refine aOps_store (by rfl) (by rfl) (by repeat (first | exact AHeap.set_same _ _ _ | assumption | refine (AHeap.set_ne _ _ (by first | assumption | exact Ne.symm (by assumption))).trans ?_)) sz34 (by rfl) (by rfl) (by first | exact Nat.le_refl _ | decide | (simp; done) | (simp; omega)) (Nat.zero_le _) (by rfl) ?_
      simp only [AVal.cells]
      simp (decide := true) only [aOps_nil, ev, putD, Slots.get, Slots.keep, if_true, if_false, setAt, List.set_cons_zero, List.set_cons_succ, Nat.zero_add, Nat.reduceAdd]
      repeat (with_reducible refine And.intro ?_ ?_; · first | trivial | omega | (intro hg; simp only [Bool.and_eq_true, Bool.or_eq_true, Bool.not_eq_true', Bool.and_eq_false_iff, Bool.or_eq_false_iff, Bool.not_eq_false', decide_eq_true_eq, decide_eq_false_iff_not, eqNil] at hg; omega) )
      apply hK; clear hK K
      refine awp_ret ?_
      try simp only [thenA_ret]
      refine retA_ret h (by repeat (first | exact Sub.refl _ | assumption | refine Sub.trans_set ?_ (by assumption))) (?_) ?_
      · simp (decide := true) only [resPre, resV_tmp, resV_cell, Slots.get, if_true, if_false, and_true, resV_tmp, resV_cell, pLoad_agg ag73 sz73, pLoad_agg ag34 sz34, rd_set, cellsAt, List.getD_cons_zero, List.getD_cons_succ, Nat.zero_add, Nat.reduceAdd, lv_bool, lv_int, lv_str, allLive, Bool.and_true, rd_ne', ne_eq, not_false_eq_true, ne_0q2_0q0.symm, cellsAt, List.getD_cons_zero, List.getD_cons_succ, Nat.zero_add, Nat.reduceAdd, lv_bool, lv_int, lv_str, allLive, Bool.and_true]
      
      simp (decide := true) only [Slots.get, if_true, if_false, and_true, resOfG_three, resV_tmp, resV_cell, pLoad_agg ag73 sz73, pLoad_agg ag34 sz34, rd_set, cellsAt, List.getD_cons_zero, List.getD_cons_succ, Nat.zero_add, Nat.reduceAdd, lv_bool, lv_int, lv_str, allLive, Bool.and_true, rd_ne', ne_eq, not_false_eq_true, ne_0q2_0q0.symm, cellsAt, List.getD_cons_zero, List.getD_cons_succ, Nat.zero_add, Nat.reduceAdd, lv_bool, lv_int, lv_str, allLive, Bool.and_true, faultA, rowA]
      unfold lineE
      rw [if_neg h80, hi1]
      rfl
    · try simp only [decide_eq_false_iff_not] at hb2
      have hbn : badAt s = none := by
        rcases badI_cases s with e | ⟨i, e1, e2, e3⟩
        · exact e.1
        · omega
      obtain ⟨p1, p2⟩ := padE_len (s := s) (by omega)
      have hspl : (sp (72 - s.length)).length = 72 - s.length := by simp [sp]
      have hpe : s ++ sp (72 - s.length) = padE s := rfl
      have h65 : (((padE s).drop 7).take 65).length = 65 := by simp; omega
      have htl := trimL_le (((padE s).drop 7).take 65)
      have hmr : decide ((((padE s).getD 6 0).toNat : Int) = 45) = ((padE s).getD 6 0 == 45) := by
        rw [Bool.eq_iff_iff, decide_eq_true_eq, beq_iff_eq]
        exact iff_of_eq (u8_eq _ 45)
      have hln := lineE_none (line := line) (dbg := dbg) h80 hbn
      refine awp_skip ?_
      change Awp _ _ _ _ _ _ _
      -- region 6  columns.go:64
      refine awp_rseq [0, 1, 2, 6, 8] (by rfl) fun K hK => ?_
      simp (decide := true) only [ev, absV, absS, putD, Slots.put, Slots.get, if_true, if_false, true_and, ↓ap_move, pop_move, ↓ap_len, pop_len, pLen_str Tryd.underlying9, ↓ap_binOp, pop_binOp, isNilC_tmp, cond_false, pBinX_int, pI_sub, ↓ap_max, pop_max, pMax_int, evs, List.map_cons, List.map_nil]
      try simp (disch := omega) only [wrap_i64]
      repeat (with_reducible refine And.intro ?_ ?_; · first | trivial | omega | (intro hg; simp only [Bool.and_eq_true, Bool.or_eq_true, Bool.not_eq_true', Bool.and_eq_false_iff, Bool.or_eq_false_iff, Bool.not_eq_false', decide_eq_true_eq, decide_eq_false_iff_not, eqNil] at hg; omega) )
      rw [show max (0 : Int) (72 - (s.length : Int)) = ((72 - s.length : Nat) : Int) by omega]
      refine aOps_callV (V := .str (sp (72 - s.length))) (by rfl) (by rfl) (c_repeat w₀ _ 32 _ (by omega)) ?_
      simp (decide := true) only [aOps_nil, ev, putD, Slots.put, Slots.get, Slots.keep, if_true, if_false, true_and, ↓ap_binOp, pop_binOp, isNilC_tmp, cond_false, pBinX_str, pS_add, ↓ap_assign, pop_assign, hpe]
      repeat (with_reducible refine And.intro ?_ ?_; · first | trivial | omega | (intro hg; simp only [Bool.and_eq_true, Bool.or_eq_true, Bool.not_eq_true', Bool.and_eq_false_iff, Bool.or_eq_false_iff, Bool.not_eq_false', decide_eq_true_eq, decide_eq_false_iff_not, eqNil] at hg; omega) )
      apply hK; clear hK K
      -- region 7  columns.go:65
      refine awp_rseq [0, 1, 2, 6, 8, 10] (by rfl) fun K hK => ?_
      simp (decide := true) only [aOps_nil, ev, absV, absS, putD, Slots.put, Slots.get, Slots.keep, if_true, if_false, true_and, ↓ap_move, pop_move, ↓ap_index, pop_index, pIndex_str Tryd.underlying9, ↓ap_assign, pop_assign, w6]
      repeat (with_reducible refine And.intro ?_ ?_; · first | trivial | omega | (intro hg; simp only [Bool.and_eq_true, Bool.or_eq_true, Bool.not_eq_true', Bool.and_eq_false_iff, Bool.or_eq_false_iff, Bool.not_eq_false', decide_eq_true_eq, decide_eq_false_iff_not, eqNil] at hg; omega) )
      apply hK; clear hK K
      -- region 8  columns.go:66
      refine awp_rseq [1, 2, 6, 8, 10, 11] (by rfl) fun K hK => ?_
      simp (decide := true) only [aOps_nil, ev, absV, absS, putD, Slots.put, Slots.get, Slots.keep, if_true, if_false, true_and, ↓ap_move, pop_move, ↓ap_slice, pop_slice, evO, pSliceS_ii Tryd.underlying9, pSliceS, bndA_int, ↓ap_assign, pop_assign, w7, w72, Nat.reduceSub]
      repeat (with_reducible refine And.intro ?_ ?_; · first | trivial | omega | (intro hg; simp only [Bool.and_eq_true, Bool.or_eq_true, Bool.not_eq_true', Bool.and_eq_false_iff, Bool.or_eq_false_iff, Bool.not_eq_false', decide_eq_true_eq, decide_eq_false_iff_not, eqNil] at hg; omega) )
      apply hK; clear hK K
      -- region 9  columns.go:67
      refine awp_rseq [1, 2, 6, 8, 10, 11, 12] (by rfl) fun K hK => ?_
      simp (decide := true) only [ev, putD, Slots.put, Slots.get, if_true, if_false, true_and, ↓ap_move, pop_move]
      repeat (with_reducible refine And.intro ?_ ?_; · first | trivial | omega | (intro hg; simp only [Bool.and_eq_true, Bool.or_eq_true, Bool.not_eq_true', Bool.and_eq_false_iff, Bool.or_eq_false_iff, Bool.not_eq_false', decide_eq_true_eq, decide_eq_false_iff_not, eqNil] at hg; omega) )
      refine aOps_callV (V := .str (trimL (((padE s).drop 7).take 65))) (by rfl) (by rfl) (c_trimL w₀ _ _) ?_
      simp (decide := true) only [aOps_nil, ev, putD, Slots.put, Slots.get, Slots.keep, if_true, if_false, true_and, ↓ap_assign, pop_assign]
      repeat (with_reducible refine And.intro ?_ ?_; · first | trivial | omega | (intro hg; simp only [Bool.and_eq_true, Bool.or_eq_true, Bool.not_eq_true', Bool.and_eq_false_iff, Bool.or_eq_false_iff, Bool.not_eq_false', decide_eq_true_eq, decide_eq_false_iff_not, eqNil] at hg; omega) )
      apply hK; clear hK K
      -- region 10  columns.go:68
      refine awp_rseq [1, 2, 6, 8, 10, 12, 13] (by rfl) fun K hK => ?_
      simp (decide := true) only [ev, absV, absS, putD, Slots.put, Slots.get, if_true, if_false, true_and, ↓ap_move, pop_move, ↓ap_binOp, pop_binOp, isNilC_int, cond_false, pBinX_int, pI_eql, ↓ap_len, pop_len, pLen_str Tryd.underlying9, isNilC_tmp, pI_add, pI_sub, ↓ap_build, ↓pop_buildL, bld73_0_1_2_3, evP, List.map_cons, List.map_nil, h65, w8, hmr]
      try simp (disch := omega) only [wrap_i64]
      repeat (with_reducible refine And.intro ?_ ?_; · first | trivial | omega | (intro hg; simp only [Bool.and_eq_true, Bool.or_eq_true, Bool.not_eq_true', Bool.and_eq_false_iff, Bool.or_eq_false_iff, Bool.not_eq_false', decide_eq_true_eq, decide_eq_false_iff_not, eqNil] at hg; omega) )
      refine aOps_alloc ze73 (cs := [.int .i64 0, .bool false, .str [], .int .i64 0]) (by rfl) fun k10q11 hk10q11 => ?_
      have ne_10q11_0q0 : k10q11 ≠ k0q0 := by simp only [AHeap.set_none] at hk10q11; simp only [hk10q11, ne_eq, not_false_eq_true]
      have ne_10q11_0q2 : k10q11 ≠ k0q2 := by simp only [AHeap.set_none] at hk10q11; simp only [hk10q11, ne_eq, not_false_eq_true]
      try have hf_10q11 : h k10q11 = none := by first | assumption | (simp only [AHeap.set_none] at hk10q11; simp only [hk10q11])
      refine aOps_store (by rfl) (by rfl) (by repeat (first | exact AHeap.set_same _ _ _ | assumption | refine (AHeap.set_ne _ _ (by first | assumption | exact Ne.symm (by assumption))).trans ?_)) sz73 (by rfl) (by rfl) (by first | exact Nat.le_refl _ | decide | (simp; done) | (simp; omega)) (Nat.zero_le _) (by rfl) ?_
      simp only [AHeap.set_set, AVal.cells]
      simp (decide := true) only [aOps_nil, ev, putD, Slots.put, Slots.get, Slots.keep, if_true, if_false, setAt, List.set_cons_zero, List.set_cons_succ, Nat.zero_add, Nat.reduceAdd]
      repeat (with_reducible refine And.intro ?_ ?_; · first | trivial | omega | (intro hg; simp only [Bool.and_eq_true, Bool.or_eq_true, Bool.not_eq_true', Bool.and_eq_false_iff, Bool.or_eq_false_iff, Bool.not_eq_false', decide_eq_true_eq, decide_eq_false_iff_not, eqNil] at hg; omega) )
      apply hK; clear hK K
      refine awp_seq ?_
      -- region 11  columns.go:69
      refine awp_rseq [1, 2, 6, 8, 12, 13, 53] (by rfl) fun K hK => ?_
      simp (decide := true) only [aOps_nil, ev, putD, Slots.put, Slots.get, Slots.keep, if_true, if_false, true_and, ↓ap_move, pop_move]
      repeat (with_reducible refine And.intro ?_ ?_; · first | trivial | omega | (intro hg; simp only [Bool.and_eq_true, Bool.or_eq_true, Bool.not_eq_true', Bool.and_eq_false_iff, Bool.or_eq_false_iff, Bool.not_eq_false', decide_eq_true_eq, decide_eq_false_iff_not, eqNil] at hg; omega) )
      apply hK; clear hK K
      refine awp_block ?_
      refine awp_seq ?_
      -- region 12  columns.go:70
      refine awp_rseq [1, 2, 6, 8, 12, 13, 53, 54] (by rfl) fun K hK => ?_
      simp (decide := true) only [aOps_nil, ev, absV, absS, putD, Slots.put, Slots.get, Slots.keep, if_true, if_false, true_and, ↓ap_binOp, pop_binOp, isNilC_int, cond_false, pBinX_int, pI_eql, ↓ap_assign, pop_assign]
      repeat (with_reducible refine And.intro ?_ ?_; · first | trivial | omega | (intro hg; simp only [Bool.and_eq_true, Bool.or_eq_true, Bool.not_eq_true', Bool.and_eq_false_iff, Bool.or_eq_false_iff, Bool.not_eq_false', decide_eq_true_eq, decide_eq_false_iff_not, eqNil] at hg; omega) )
      apply hK; clear hK K
      refine awp_cond (b := _) rfl (fun hb3 => ?_) (fun hb3 => ?_)
      · try simp only [decide_eq_true_eq] at hb3
        refine awp_skip ?_
        change Awp _ _ _ _ _ _ _
        refine awp_cond (b := _) rfl (fun hb4 => ?_) (fun hb4 => ?_)
        · try simp only [decide_eq_true_eq] at hb4
          -- region 14  columns.go:71
          refine awp_rseq [6, 7, 8] (by rfl) fun K hK => ?_
          simp (decide := true) only [ev, absV, absS, putD, Slots.put, Slots.get, if_true, if_false, true_and, ↓ap_loadL, apL_mk, pLoad_agg ag73 sz73, ↓ap_build, ↓pop_buildL, bld34_, evP, List.map_nil, rd_any, cellsAt, List.getD_cons_zero, List.getD_cons_succ, Nat.zero_add, Nat.reduceAdd, lv_bool, lv_int, lv_str, allLive, Bool.and_true]
          repeat (with_reducible refine And.intro ?_ ?_; · first | trivial | omega | (intro hg; simp only [Bool.and_eq_true, Bool.or_eq_true, Bool.not_eq_true', Bool.and_eq_false_iff, Bool.or_eq_false_iff, Bool.not_eq_false', decide_eq_true_eq, decide_eq_false_iff_not, eqNil] at hg; omega) )
          refine aOps_store (by rfl) (by rfl) (by repeat (first | exact AHeap.set_same _ _ _ | assumption | refine (AHeap.set_ne _ _ (by first | assumption | exact Ne.symm (by assumption))).trans ?_)) sz73 (by rfl) (by rfl) (by first | exact Nat.le_refl _ | decide | (simp; done) | (simp; omega)) (Nat.zero_le _) (by rfl) ?_
          simp only [AVal.cells]
          simp (decide := true) only [ev, absV, absS, putD, Slots.put, Slots.get, if_true, if_false, true_and, ↓ap_assign, pop_assign, setAt, List.set_cons_zero, List.set_cons_succ, Nat.zero_add, Nat.reduceAdd]
          repeat (with_reducible refine And.intro ?_ ?_; · first | trivial | omega | (intro hg; simp only [Bool.and_eq_true, Bool.or_eq_true, Bool.not_eq_true', Bool.and_eq_false_iff, Bool.or_eq_false_iff, Bool.not_eq_false', decide_eq_true_eq, decide_eq_false_iff_not, eqNil] at hg; omega) )
          refine aOps_store (by rfl) (by rfl) (by repeat (first | exact AHeap.set_same _ _ _ | assumption | refine (AHeap.set_ne _ _ (by first | assumption | exact Ne.symm (by assumption))).trans ?_)) sz34 (by rfl) (by rfl) (by first | exact Nat.le_refl _ | decide | (simp; done) | (simp; omega)) (Nat.zero_le _) (by rfl) ?_
          simp only [AVal.cells]
          simp (decide := true) only [aOps_nil, ev, putD, Slots.get, Slots.keep, if_true, if_false, setAt, List.set_cons_zero, List.set_cons_succ, Nat.zero_add, Nat.reduceAdd]
          repeat (with_reducible refine And.intro ?_ ?_; · first | trivial | omega | (intro hg; simp only [Bool.and_eq_true, Bool.or_eq_true, Bool.not_eq_true', Bool.and_eq_false_iff, Bool.or_eq_false_iff, Bool.not_eq_false', decide_eq_true_eq, decide_eq_false_iff_not, eqNil] at hg; omega) )
          apply hK; clear hK K
          refine awp_ret ?_
          try simp only [thenA_ret, inBlockA_ret]
          refine retA_ret h (by repeat (first | exact Sub.refl _ | assumption | refine Sub.trans_set ?_ (by assumption))) (?_) ?_
          · simp (decide := true) only [resPre, resV_tmp, resV_cell, Slots.get, if_true, if_false, and_true, resV_tmp, resV_cell, pLoad_agg ag73 sz73, pLoad_agg ag34 sz34, rd_set, cellsAt, List.getD_cons_zero, List.getD_cons_succ, Nat.zero_add, Nat.reduceAdd, lv_bool, lv_int, lv_str, allLive, Bool.and_true, rd_ne', ne_eq, not_false_eq_true, ne_0q2_0q0.symm, cellsAt, List.getD_cons_zero, List.getD_cons_succ, Nat.zero_add, Nat.reduceAdd, lv_bool, lv_int, lv_str, allLive, Bool.and_true]
          
          simp (decide := true) only [Slots.get, if_true, if_false, and_true, resOfG_three, resV_tmp, resV_cell, pLoad_agg ag73 sz73, pLoad_agg ag34 sz34, rd_set, cellsAt, List.getD_cons_zero, List.getD_cons_succ, Nat.zero_add, Nat.reduceAdd, lv_bool, lv_int, lv_str, allLive, Bool.and_true, rd_ne', ne_eq, not_false_eq_true, ne_0q2_0q0.symm, cellsAt, List.getD_cons_zero, List.getD_cons_succ, Nat.zero_add, Nat.reduceAdd, lv_bool, lv_int, lv_str, allLive, Bool.and_true, faultA, rowA]
          rw [hln, if_pos (.inl ((u8_eq _ 42).mp hb3))]
          rfl
        · try simp only [decide_eq_false_iff_not] at hb4
          exact absurd hb3 hb4
      · try simp only [decide_eq_false_iff_not] at hb3
        -- region 13  columns.go:70
        refine awp_r [1, 2, 6, 8, 12, 13, 53, 54] (by rfl) ?_
        simp (decide := true) only [aOps_nil, ev, absV, absS, putD, Slots.put, Slots.get, Slots.keep, if_true, if_false, true_and, ↓ap_binOp, pop_binOp, isNilC_int, cond_false, pBinX_int, pI_eql, ↓ap_assign, pop_assign, faultA, rowA]
        repeat (with_reducible refine And.intro ?_ ?_; · first | trivial | omega | (intro hg; simp only [Bool.and_eq_true, Bool.or_eq_true, Bool.not_eq_true', Bool.and_eq_false_iff, Bool.or_eq_false_iff, Bool.not_eq_false', decide_eq_true_eq, decide_eq_false_iff_not, eqNil] at hg; omega) )
        change Awp _ _ _ _ _ _ _
        refine awp_cond (b := _) rfl (fun hb9 => ?_) (fun hb9 => ?_)
        · try simp only [decide_eq_true_eq] at hb9
          -- region 14  columns.go:71
          refine awp_rseq [6, 7, 8] (by rfl) fun K hK => ?_
          simp (decide := true) only [ev, absV, absS, putD, Slots.put, Slots.get, if_true, if_false, true_and, ↓ap_loadL, apL_mk, pLoad_agg ag73 sz73, ↓ap_build, ↓pop_buildL, bld34_, evP, List.map_nil, rd_any, cellsAt, List.getD_cons_zero, List.getD_cons_succ, Nat.zero_add, Nat.reduceAdd, lv_bool, lv_int, lv_str, allLive, Bool.and_true]
          repeat (with_reducible refine And.intro ?_ ?_; · first | trivial | omega | (intro hg; simp only [Bool.and_eq_true, Bool.or_eq_true, Bool.not_eq_true', Bool.and_eq_false_iff, Bool.or_eq_false_iff, Bool.not_eq_false', decide_eq_true_eq, decide_eq_false_iff_not, eqNil] at hg; omega) )
          refine aOps_store (by rfl) (by rfl) (by repeat (first | exact AHeap.set_same _ _ _ | assumption | refine (AHeap.set_ne _ _ (by first | assumption | exact Ne.symm (by assumption))).trans ?_)) sz73 (by rfl) (by rfl) (by first | exact Nat.le_refl _ | decide | (simp; done) | (simp; omega)) (Nat.zero_le _) (by rfl) ?_
          simp only [AVal.cells]
          simp (decide := true) only [ev, absV, absS, putD, Slots.put, Slots.get, if_true, if_false, true_and, ↓ap_assign, pop_assign, setAt, List.set_cons_zero, List.set_cons_succ, Nat.zero_add, Nat.reduceAdd]
          repeat (with_reducible refine And.intro ?_ ?_; · first | trivial | omega | (intro hg; simp only [Bool.and_eq_true, Bool.or_eq_true, Bool.not_eq_true', Bool.and_eq_false_iff, Bool.or_eq_false_iff, Bool.not_eq_false', decide_eq_true_eq, decide_eq_false_iff_not, eqNil] at hg; omega) )
          refine aOps_store (by rfl) (by rfl) (by repeat (first | exact AHeap.set_same _ _ _ | assumption | refine (AHeap.set_ne _ _ (by first | assumption | exact Ne.symm (by assumption))).trans ?_)) sz34 (by rfl) (by rfl) (by first | exact Nat.le_refl _ | decide | (simp; done) | (simp; omega)) (Nat.zero_le _) (by rfl) ?_
          simp only [AVal.cells]
          simp (decide := true) only [aOps_nil, ev, putD, Slots.get, Slots.keep, if_true, if_false, setAt, List.set_cons_zero, List.set_cons_succ, Nat.zero_add, Nat.reduceAdd]
          repeat (with_reducible refine And.intro ?_ ?_; · first | trivial | omega | (intro hg; simp only [Bool.and_eq_true, Bool.or_eq_true, Bool.not_eq_true', Bool.and_eq_false_iff, Bool.or_eq_false_iff, Bool.not_eq_false', decide_eq_true_eq, decide_eq_false_iff_not, eqNil] at hg; omega) )
          apply hK; clear hK K
          refine awp_ret ?_
          try simp only [thenA_ret, inBlockA_ret]
          refine retA_ret h (by repeat (first | exact Sub.refl _ | assumption | refine Sub.trans_set ?_ (by assumption))) (?_) ?_
          · simp (decide := true) only [resPre, resV_tmp, resV_cell, Slots.get, if_true, if_false, and_true, resV_tmp, resV_cell, pLoad_agg ag73 sz73, pLoad_agg ag34 sz34, rd_set, cellsAt, List.getD_cons_zero, List.getD_cons_succ, Nat.zero_add, Nat.reduceAdd, lv_bool, lv_int, lv_str, allLive, Bool.and_true, rd_ne', ne_eq, not_false_eq_true, ne_0q2_0q0.symm, cellsAt, List.getD_cons_zero, List.getD_cons_succ, Nat.zero_add, Nat.reduceAdd, lv_bool, lv_int, lv_str, allLive, Bool.and_true]
          
          simp (decide := true) only [Slots.get, if_true, if_false, and_true, resOfG_three, resV_tmp, resV_cell, pLoad_agg ag73 sz73, pLoad_agg ag34 sz34, rd_set, cellsAt, List.getD_cons_zero, List.getD_cons_succ, Nat.zero_add, Nat.reduceAdd, lv_bool, lv_int, lv_str, allLive, Bool.and_true, rd_ne', ne_eq, not_false_eq_true, ne_0q2_0q0.symm, cellsAt, List.getD_cons_zero, List.getD_cons_succ, Nat.zero_add, Nat.reduceAdd, lv_bool, lv_int, lv_str, allLive, Bool.and_true]
          rw [hln, if_pos (.inr ((u8_eq _ 47).mp hb9))]
          rfl
        · try simp only [decide_eq_false_iff_not] at hb9
          have n1 : ¬ ((padE s).getD 6 0 = 42 ∨ (padE s).getD 6 0 = 47) := by
            rintro (e | e)
            · exact hb3 ((u8_eq _ 42).mpr e)
            · exact hb9 ((u8_eq _ 47).mpr e)
          refine awp_seq ?_
          -- region 15  columns.go:72
          refine awp_rseq [1, 2, 6, 8, 12, 13, 53, 59] (by rfl) fun K hK => ?_
          simp (decide := true) only [aOps_nil, ev, absV, absS, putD, Slots.put, Slots.get, Slots.keep, if_true, if_false, true_and, ↓ap_binOp, pop_binOp, isNilC_int, cond_false, pBinX_int, pI_eql, ↓ap_assign, pop_assign]
          repeat (with_reducible refine And.intro ?_ ?_; · first | trivial | omega | (intro hg; simp only [Bool.and_eq_true, Bool.or_eq_true, Bool.not_eq_true', Bool.and_eq_false_iff, Bool.or_eq_false_iff, Bool.not_eq_false', decide_eq_true_eq, decide_eq_false_iff_not, eqNil] at hg; omega) )
          apply hK; clear hK K
          refine awp_cond (b := _) rfl (fun hb10 => ?_) (fun hb10 => ?_)
          · try simp only [decide_eq_true_eq] at hb10
            refine awp_skip ?_
            change Awp _ _ _ _ _ _ _
            refine awp_cond (b := _) rfl (fun hb11 => ?_) (fun hb11 => ?_)
            · try simp only [decide_eq_true_eq] at hb11
              -- region 17  columns.go:73
              refine awp_rseq [6, 7, 8] (by rfl) fun K hK => ?_
              simp (decide := true) only [ev, absV, absS, putD, Slots.put, Slots.get, if_true, if_false, true_and, ↓ap_loadL, apL_mk, pLoad_agg ag73 sz73, ↓ap_move, pop_move, ↓ag_move, agP, agQ_some, nthDst, gKnown_bool, guardB_bool_true, implies_true, Bool.and_true, ↓ag_binOp, pop_binOp, isNilC_str, cond_false, cv_binl, cp_binl, pBinX_str, pS_neq, ↓ap_pick, pop_pick, pPick_bool, pickV_cond_l, pickV_and, ↓ap_build, ↓pop_buildL, bld34_, evP, List.map_nil, rd_any, cellsAt, List.getD_cons_zero, List.getD_cons_succ, Nat.zero_add, Nat.reduceAdd, lv_bool, lv_int, lv_str, allLive, Bool.and_true]
              repeat (with_reducible refine And.intro ?_ ?_; · first | trivial | omega | (intro hg; simp only [Bool.and_eq_true, Bool.or_eq_true, Bool.not_eq_true', Bool.and_eq_false_iff, Bool.or_eq_false_iff, Bool.not_eq_false', decide_eq_true_eq, decide_eq_false_iff_not, eqNil] at hg; omega) )
              refine aOps_store (by rfl) (by rfl) (by repeat (first | exact AHeap.set_same _ _ _ | assumption | refine (AHeap.set_ne _ _ (by first | assumption | exact Ne.symm (by assumption))).trans ?_)) sz73 (by rfl) (by rfl) (by first | exact Nat.le_refl _ | decide | (simp; done) | (simp; omega)) (Nat.zero_le _) (by rfl) ?_
              simp only [AVal.cells]
              simp (decide := true) only [ev, putD, Slots.put, Slots.get, if_true, if_false, true_and, ↓ap_assign, pop_assign, setAt, List.set_cons_zero, List.set_cons_succ, Nat.zero_add, Nat.reduceAdd]
              repeat (with_reducible refine And.intro ?_ ?_; · first | trivial | omega | (intro hg; simp only [Bool.and_eq_true, Bool.or_eq_true, Bool.not_eq_true', Bool.and_eq_false_iff, Bool.or_eq_false_iff, Bool.not_eq_false', decide_eq_true_eq, decide_eq_false_iff_not, eqNil] at hg; omega) )
              refine aOps_store (by rfl) (by rfl) (by repeat (first | exact AHeap.set_same _ _ _ | assumption | refine (AHeap.set_ne _ _ (by first | assumption | exact Ne.symm (by assumption))).trans ?_)) sz34 (by rfl) (by rfl) (by first | exact Nat.le_refl _ | decide | (simp; done) | (simp; omega)) (Nat.zero_le _) (by rfl) ?_
              simp only [AVal.cells]
              simp (decide := true) only [aOps_nil, ev, putD, Slots.get, Slots.keep, if_true, if_false, setAt, List.set_cons_zero, List.set_cons_succ, Nat.zero_add, Nat.reduceAdd]
              repeat (with_reducible refine And.intro ?_ ?_; · first | trivial | omega | (intro hg; simp only [Bool.and_eq_true, Bool.or_eq_true, Bool.not_eq_true', Bool.and_eq_false_iff, Bool.or_eq_false_iff, Bool.not_eq_false', decide_eq_true_eq, decide_eq_false_iff_not, eqNil] at hg; omega) )
              apply hK; clear hK K
              refine awp_ret ?_
              try simp only [thenA_ret, inBlockA_ret]
              refine retA_ret h (by repeat (first | exact Sub.refl _ | assumption | refine Sub.trans_set ?_ (by assumption))) (?_) ?_
              · simp (decide := true) only [resPre, resV_tmp, resV_cell, Slots.get, if_true, if_false, and_true, resV_tmp, resV_cell, pLoad_agg ag73 sz73, pLoad_agg ag34 sz34, rd_set, cellsAt, List.getD_cons_zero, List.getD_cons_succ, Nat.zero_add, Nat.reduceAdd, lv_bool, lv_int, lv_str, allLive, Bool.and_true, rd_ne', ne_eq, not_false_eq_true, ne_0q2_0q0.symm, cellsAt, List.getD_cons_zero, List.getD_cons_succ, Nat.zero_add, Nat.reduceAdd, lv_bool, lv_int, lv_str, allLive, Bool.and_true]
              
              simp (decide := true) only [Slots.get, if_true, if_false, and_true, resOfG_three, resV_tmp, resV_cell, pLoad_agg ag73 sz73, pLoad_agg ag34 sz34, rd_set, cellsAt, List.getD_cons_zero, List.getD_cons_succ, Nat.zero_add, Nat.reduceAdd, lv_bool, lv_int, lv_str, allLive, Bool.and_true, rd_ne', ne_eq, not_false_eq_true, ne_0q2_0q0.symm, cellsAt, List.getD_cons_zero, List.getD_cons_succ, Nat.zero_add, Nat.reduceAdd, lv_bool, lv_int, lv_str, allLive, Bool.and_true]
              rw [hln, if_neg n1, if_pos (.inl ((u8_eq _ 68).mp hb10))]
              rfl
            · try simp only [decide_eq_false_iff_not] at hb11
              exact absurd hb10 hb11
          · try simp only [decide_eq_false_iff_not] at hb10
            -- region 16  columns.go:72
            refine awp_r [1, 2, 6, 8, 12, 13, 53, 59] (by rfl) ?_
            simp (decide := true) only [aOps_nil, ev, absV, absS, putD, Slots.put, Slots.get, Slots.keep, if_true, if_false, true_and, ↓ap_binOp, pop_binOp, isNilC_int, cond_false, pBinX_int, pI_eql, ↓ap_assign, pop_assign]
            repeat (with_reducible refine And.intro ?_ ?_; · first | trivial | omega | (intro hg; simp only [Bool.and_eq_true, Bool.or_eq_true, Bool.not_eq_true', Bool.and_eq_false_iff, Bool.or_eq_false_iff, Bool.not_eq_false', decide_eq_true_eq, decide_eq_false_iff_not, eqNil] at hg; omega) )
            change Awp _ _ _ _ _ _ _
            refine awp_cond (b := _) rfl (fun hb14 => ?_) (fun hb14 => ?_)
            · try simp only [decide_eq_true_eq] at hb14
              -- region 17  columns.go:73
              refine awp_rseq [6, 7, 8] (by rfl) fun K hK => ?_
              simp (decide := true) only [ev, absV, absS, putD, Slots.put, Slots.get, if_true, if_false, true_and, ↓ap_loadL, apL_mk, pLoad_agg ag73 sz73, ↓ap_move, pop_move, ↓ag_move, agP, agQ_some, nthDst, gKnown_bool, guardB_bool_true, implies_true, Bool.and_true, ↓ag_binOp, pop_binOp, isNilC_str, cond_false, cv_binl, cp_binl, pBinX_str, pS_neq, ↓ap_pick, pop_pick, pPick_bool, pickV_cond_l, pickV_and, ↓ap_build, ↓pop_buildL, bld34_, evP, List.map_nil, rd_any, cellsAt, List.getD_cons_zero, List.getD_cons_succ, Nat.zero_add, Nat.reduceAdd, lv_bool, lv_int, lv_str, allLive, Bool.and_true]
              repeat (with_reducible refine And.intro ?_ ?_; · first | trivial | omega | (intro hg; simp only [Bool.and_eq_true, Bool.or_eq_true, Bool.not_eq_true', Bool.and_eq_false_iff, Bool.or_eq_false_iff, Bool.not_eq_false', decide_eq_true_eq, decide_eq_false_iff_not, eqNil] at hg; omega) )
              refine aOps_store (by rfl) (by rfl) (by repeat (first | exact AHeap.set_same _ _ _ | assumption | refine (AHeap.set_ne _ _ (by first | assumption | exact Ne.symm (by assumption))).trans ?_)) sz73 (by rfl) (by rfl) (by first | exact Nat.le_refl _ | decide | (simp; done) | (simp; omega)) (Nat.zero_le _) (by rfl) ?_
              simp only [AVal.cells]
              simp (decide := true) only [ev, putD, Slots.put, Slots.get, if_true, if_false, true_and, ↓ap_assign, pop_assign, setAt, List.set_cons_zero, List.set_cons_succ, Nat.zero_add, Nat.reduceAdd]
              repeat (with_reducible refine And.intro ?_ ?_; · first | trivial | omega | (intro hg; simp only [Bool.and_eq_true, Bool.or_eq_true, Bool.not_eq_true', Bool.and_eq_false_iff, Bool.or_eq_false_iff, Bool.not_eq_false', decide_eq_true_eq, decide_eq_false_iff_not, eqNil] at hg; omega) )
              refine aOps_store (by rfl) (by rfl) (by repeat (first | exact AHeap.set_same _ _ _ | assumption | refine (AHeap.set_ne _ _ (by first | assumption | exact Ne.symm (by assumption))).trans ?_)) sz34 (by rfl) (by rfl) (by first | exact Nat.le_refl _ | decide | (simp; done) | (simp; omega)) (Nat.zero_le _) (by rfl) ?_
              simp only [AVal.cells]
              simp (decide := true) only [aOps_nil, ev, putD, Slots.get, Slots.keep, if_true, if_false, setAt, List.set_cons_zero, List.set_cons_succ, Nat.zero_add, Nat.reduceAdd]
              repeat (with_reducible refine And.intro ?_ ?_; · first | trivial | omega | (intro hg; simp only [Bool.and_eq_true, Bool.or_eq_true, Bool.not_eq_true', Bool.and_eq_false_iff, Bool.or_eq_false_iff, Bool.not_eq_false', decide_eq_true_eq, decide_eq_false_iff_not, eqNil] at hg; omega) )
              apply hK; clear hK K
              refine awp_ret ?_
              try simp only [thenA_ret, inBlockA_ret]
              refine retA_ret h (by repeat (first | exact Sub.refl _ | assumption | refine Sub.trans_set ?_ (by assumption))) (?_) ?_
              · simp (decide := true) only [resPre, resV_tmp, resV_cell, Slots.get, if_true, if_false, and_true, resV_tmp, resV_cell, pLoad_agg ag73 sz73, pLoad_agg ag34 sz34, rd_set, cellsAt, List.getD_cons_zero, List.getD_cons_succ, Nat.zero_add, Nat.reduceAdd, lv_bool, lv_int, lv_str, allLive, Bool.and_true, rd_ne', ne_eq, not_false_eq_true, ne_0q2_0q0.symm, cellsAt, List.getD_cons_zero, List.getD_cons_succ, Nat.zero_add, Nat.reduceAdd, lv_bool, lv_int, lv_str, allLive, Bool.and_true]
              
              simp (decide := true) only [Slots.get, if_true, if_false, and_true, resOfG_three, resV_tmp, resV_cell, pLoad_agg ag73 sz73, pLoad_agg ag34 sz34, rd_set, cellsAt, List.getD_cons_zero, List.getD_cons_succ, Nat.zero_add, Nat.reduceAdd, lv_bool, lv_int, lv_str, allLive, Bool.and_true, rd_ne', ne_eq, not_false_eq_true, ne_0q2_0q0.symm, cellsAt, List.getD_cons_zero, List.getD_cons_succ, Nat.zero_add, Nat.reduceAdd, lv_bool, lv_int, lv_str, allLive, Bool.and_true]
              rw [hln, if_neg n1, if_pos (.inr ((u8_eq _ 100).mp hb14))]
              rfl
            · try simp only [decide_eq_false_iff_not] at hb14
              have n2 : ¬ ((padE s).getD 6 0 = 68 ∨ (padE s).getD 6 0 = 100) := by
                rintro (e | e)
                · exact hb10 ((u8_eq _ 68).mpr e)
                · exact hb14 ((u8_eq _ 100).mpr e)
              refine awp_seq ?_
              -- region 18  columns.go:74
              refine awp_rseq [1, 6, 8, 12, 13, 53, 69] (by rfl) fun K hK => ?_
              simp (decide := true) only [aOps_nil, ev, absV, absS, putD, Slots.put, Slots.get, Slots.keep, if_true, if_false, true_and, ↓ap_binOp, pop_binOp, isNilC_int, cond_false, pBinX_int, pI_eql, ↓ap_assign, pop_assign]
              repeat (with_reducible refine And.intro ?_ ?_; · first | trivial | omega | (intro hg; simp only [Bool.and_eq_true, Bool.or_eq_true, Bool.not_eq_true', Bool.and_eq_false_iff, Bool.or_eq_false_iff, Bool.not_eq_false', decide_eq_true_eq, decide_eq_false_iff_not, eqNil] at hg; omega) )
              apply hK; clear hK K
              refine awp_cond (b := _) rfl (fun hb15 => ?_) (fun hb15 => ?_)
              · try simp only [decide_eq_true_eq] at hb15
                refine awp_skip ?_
                change Awp _ _ _ _ _ _ _
                refine awp_cond (b := _) rfl (fun hb16 => ?_) (fun hb16 => ?_)
                · try simp only [decide_eq_true_eq] at hb16
                  -- region 20  columns.go:75
                  refine awp_rseq [6, 7, 8] (by rfl) fun K hK => ?_
                  simp (decide := true) only [ev, absV, absS, putD, Slots.put, Slots.get, if_true, if_false, true_and, ↓ap_loadL, apL_mk, pLoad_agg ag73 sz73, ↓ap_move, pop_move, ↓ap_binOp, pop_binOp, isNilC_str, cond_false, pBinX_str, pS_neq, ↓ap_build, ↓pop_buildL, bld34_, evP, List.map_nil, rd_any, cellsAt, List.getD_cons_zero, List.getD_cons_succ, Nat.zero_add, Nat.reduceAdd, lv_bool, lv_int, lv_str, allLive, Bool.and_true]
                  repeat (with_reducible refine And.intro ?_ ?_; · first | trivial | omega | (intro hg; simp only [Bool.and_eq_true, Bool.or_eq_true, Bool.not_eq_true', Bool.and_eq_false_iff, Bool.or_eq_false_iff, Bool.not_eq_false', decide_eq_true_eq, decide_eq_false_iff_not, eqNil] at hg; omega) )
                  refine aOps_store (by rfl) (by rfl) (by repeat (first | exact AHeap.set_same _ _ _ | assumption | refine (AHeap.set_ne _ _ (by first | assumption | exact Ne.symm (by assumption))).trans ?_)) sz73 (by rfl) (by rfl) (by first | exact Nat.le_refl _ | decide | (simp; done) | (simp; omega)) (Nat.zero_le _) (by rfl) ?_
                  simp only [AVal.cells]
                  simp (decide := true) only [ev, putD, Slots.put, Slots.get, if_true, if_false, true_and, ↓ap_assign, pop_assign, setAt, List.set_cons_zero, List.set_cons_succ, Nat.zero_add, Nat.reduceAdd]
                  repeat (with_reducible refine And.intro ?_ ?_; · first | trivial | omega | (intro hg; simp only [Bool.and_eq_true, Bool.or_eq_true, Bool.not_eq_true', Bool.and_eq_false_iff, Bool.or_eq_false_iff, Bool.not_eq_false', decide_eq_true_eq, decide_eq_false_iff_not, eqNil] at hg; omega) )
                  refine aOps_store (by rfl) (by rfl) (by repeat (first | exact AHeap.set_same _ _ _ | assumption | refine (AHeap.set_ne _ _ (by first | assumption | exact Ne.symm (by assumption))).trans ?_)) sz34 (by rfl) (by rfl) (by first | exact Nat.le_refl _ | decide | (simp; done) | (simp; omega)) (Nat.zero_le _) (by rfl) ?_
                  simp only [AVal.cells]
                  simp (decide := true) only [aOps_nil, ev, putD, Slots.get, Slots.keep, if_true, if_false, setAt, List.set_cons_zero, List.set_cons_succ, Nat.zero_add, Nat.reduceAdd]
                  repeat (with_reducible refine And.intro ?_ ?_; · first | trivial | omega | (intro hg; simp only [Bool.and_eq_true, Bool.or_eq_true, Bool.not_eq_true', Bool.and_eq_false_iff, Bool.or_eq_false_iff, Bool.not_eq_false', decide_eq_true_eq, decide_eq_false_iff_not, eqNil] at hg; omega) )
                  apply hK; clear hK K
                  refine awp_ret ?_
                  try simp only [thenA_ret, inBlockA_ret]
                  refine retA_ret h (by repeat (first | exact Sub.refl _ | assumption | refine Sub.trans_set ?_ (by assumption))) (?_) ?_
                  · simp (decide := true) only [resPre, resV_tmp, resV_cell, Slots.get, if_true, if_false, and_true, resV_tmp, resV_cell, pLoad_agg ag73 sz73, pLoad_agg ag34 sz34, rd_set, cellsAt, List.getD_cons_zero, List.getD_cons_succ, Nat.zero_add, Nat.reduceAdd, lv_bool, lv_int, lv_str, allLive, Bool.and_true, rd_ne', ne_eq, not_false_eq_true, ne_0q2_0q0.symm, cellsAt, List.getD_cons_zero, List.getD_cons_succ, Nat.zero_add, Nat.reduceAdd, lv_bool, lv_int, lv_str, allLive, Bool.and_true]
                  
                  simp (decide := true) only [Slots.get, if_true, if_false, and_true, resOfG_three, resV_tmp, resV_cell, pLoad_agg ag73 sz73, pLoad_agg ag34 sz34, rd_set, cellsAt, List.getD_cons_zero, List.getD_cons_succ, Nat.zero_add, Nat.reduceAdd, lv_bool, lv_int, lv_str, allLive, Bool.and_true, rd_ne', ne_eq, not_false_eq_true, ne_0q2_0q0.symm, cellsAt, List.getD_cons_zero, List.getD_cons_succ, Nat.zero_add, Nat.reduceAdd, lv_bool, lv_int, lv_str, allLive, Bool.and_true]
                  rw [hln, if_neg n1, if_neg n2, if_pos (.inl ((u8_eq _ 32).mp hb15))]
                  rfl
                · try simp only [decide_eq_false_iff_not] at hb16
                  exact absurd hb15 hb16
              · try simp only [decide_eq_false_iff_not] at hb15
                -- region 19  columns.go:74
                refine awp_r [1, 6, 8, 12, 13, 69] (by rfl) ?_
                simp (decide := true) only [aOps_nil, ev, absV, absS, putD, Slots.put, Slots.get, Slots.keep, if_true, if_false, true_and, ↓ap_binOp, pop_binOp, isNilC_int, cond_false, pBinX_int, pI_eql, ↓ap_assign, pop_assign]
                repeat (with_reducible refine And.intro ?_ ?_; · first | trivial | omega | (intro hg; simp only [Bool.and_eq_true, Bool.or_eq_true, Bool.not_eq_true', Bool.and_eq_false_iff, Bool.or_eq_false_iff, Bool.not_eq_false', decide_eq_true_eq, decide_eq_false_iff_not, eqNil] at hg; omega) )
                change Awp _ _ _ _ _ _ _
                refine awp_cond (b := _) rfl (fun hb17 => ?_) (fun hb17 => ?_)
                · try simp only [decide_eq_true_eq] at hb17
                  -- region 20  columns.go:75
                  refine awp_rseq [6, 7, 8] (by rfl) fun K hK => ?_
                  simp (decide := true) only [ev, absV, absS, putD, Slots.put, Slots.get, if_true, if_false, true_and, ↓ap_loadL, apL_mk, pLoad_agg ag73 sz73, ↓ap_move, pop_move, ↓ap_binOp, pop_binOp, isNilC_str, cond_false, pBinX_str, pS_neq, ↓ap_build, ↓pop_buildL, bld34_, evP, List.map_nil, rd_any, cellsAt, List.getD_cons_zero, List.getD_cons_succ, Nat.zero_add, Nat.reduceAdd, lv_bool, lv_int, lv_str, allLive, Bool.and_true]
                  repeat (with_reducible refine And.intro ?_ ?_; · first | trivial | omega | (intro hg; simp only [Bool.and_eq_true, Bool.or_eq_true, Bool.not_eq_true', Bool.and_eq_false_iff, Bool.or_eq_false_iff, Bool.not_eq_false', decide_eq_true_eq, decide_eq_false_iff_not, eqNil] at hg; omega) )
                  refine aOps_store (by rfl) (by rfl) (by repeat (first | exact AHeap.set_same _ _ _ | assumption | refine (AHeap.set_ne _ _ (by first | assumption | exact Ne.symm (by assumption))).trans ?_)) sz73 (by rfl) (by rfl) (by first | exact Nat.le_refl _ | decide | (simp; done) | (simp; omega)) (Nat.zero_le _) (by rfl) ?_
                  simp only [AVal.cells]
                  simp (decide := true) only [ev, putD, Slots.put, Slots.get, if_true, if_false, true_and, ↓ap_assign, pop_assign, setAt, List.set_cons_zero, List.set_cons_succ, Nat.zero_add, Nat.reduceAdd]
                  repeat (with_reducible refine And.intro ?_ ?_; · first | trivial | omega | (intro hg; simp only [Bool.and_eq_true, Bool.or_eq_true, Bool.not_eq_true', Bool.and_eq_false_iff, Bool.or_eq_false_iff, Bool.not_eq_false', decide_eq_true_eq, decide_eq_false_iff_not, eqNil] at hg; omega) )
                  refine aOps_store (by rfl) (by rfl) (by repeat (first | exact AHeap.set_same _ _ _ | assumption | refine (AHeap.set_ne _ _ (by first | assumption | exact Ne.symm (by assumption))).trans ?_)) sz34 (by rfl) (by rfl) (by first | exact Nat.le_refl _ | decide | (simp; done) | (simp; omega)) (Nat.zero_le _) (by rfl) ?_
                  simp only [AVal.cells]
                  simp (decide := true) only [aOps_nil, ev, putD, Slots.get, Slots.keep, if_true, if_false, setAt, List.set_cons_zero, List.set_cons_succ, Nat.zero_add, Nat.reduceAdd]
                  repeat (with_reducible refine And.intro ?_ ?_; · first | trivial | omega | (intro hg; simp only [Bool.and_eq_true, Bool.or_eq_true, Bool.not_eq_true', Bool.and_eq_false_iff, Bool.or_eq_false_iff, Bool.not_eq_false', decide_eq_true_eq, decide_eq_false_iff_not, eqNil] at hg; omega) )
                  apply hK; clear hK K
                  refine awp_ret ?_
                  try simp only [thenA_ret, inBlockA_ret]
                  refine retA_ret h (by repeat (first | exact Sub.refl _ | assumption | refine Sub.trans_set ?_ (by assumption))) (?_) ?_
                  · simp (decide := true) only [resPre, resV_tmp, resV_cell, Slots.get, if_true, if_false, and_true, resV_tmp, resV_cell, pLoad_agg ag73 sz73, pLoad_agg ag34 sz34, rd_set, cellsAt, List.getD_cons_zero, List.getD_cons_succ, Nat.zero_add, Nat.reduceAdd, lv_bool, lv_int, lv_str, allLive, Bool.and_true, rd_ne', ne_eq, not_false_eq_true, ne_0q2_0q0.symm, cellsAt, List.getD_cons_zero, List.getD_cons_succ, Nat.zero_add, Nat.reduceAdd, lv_bool, lv_int, lv_str, allLive, Bool.and_true]
                  
                  simp (decide := true) only [Slots.get, if_true, if_false, and_true, resOfG_three, resV_tmp, resV_cell, pLoad_agg ag73 sz73, pLoad_agg ag34 sz34, rd_set, cellsAt, List.getD_cons_zero, List.getD_cons_succ, Nat.zero_add, Nat.reduceAdd, lv_bool, lv_int, lv_str, allLive, Bool.and_true, rd_ne', ne_eq, not_false_eq_true, ne_0q2_0q0.symm, cellsAt, List.getD_cons_zero, List.getD_cons_succ, Nat.zero_add, Nat.reduceAdd, lv_bool, lv_int, lv_str, allLive, Bool.and_true]
                  rw [hln, if_neg n1, if_neg n2, if_pos (.inr ((u8_eq _ 45).mp hb17))]
                  rfl
                · try simp only [decide_eq_false_iff_not] at hb17
                  refine awp_skip ?_
                  change Awp _ _ _ _ _ _ _
                  -- region 21  columns.go:77
                  refine awp_dseq_anyT 3 [6, 7, 8] mixed (by kernel_rfl) (by rfl) fun K hK => ?_
                  simp only [List.take_succ_cons, List.take_zero, List.drop_succ_cons, List.drop_zero]
                  simp (decide := true) only [ev, putD, Slots.put, Slots.get, if_true, if_false, true_and, ↓vp_load, pop_load, pLoad_agg ag73 sz73, ↓vp_move, pop_move, rd_any, cellsAt, List.getD_cons_zero, List.getD_cons_succ, Nat.zero_add, Nat.reduceAdd, lv_bool, lv_int, lv_str, allLive, Bool.and_true]
                  repeat (with_reducible refine And.intro ?_ ?_; · first | trivial | omega | (intro hg; simp only [Bool.and_eq_true, Bool.or_eq_true, Bool.not_eq_true', Bool.and_eq_false_iff, Bool.or_eq_false_iff, Bool.not_eq_false', decide_eq_true_eq, decide_eq_false_iff_not, eqNil] at hg; omega) )
                  refine vOps_callV (V := faultA ⟨4, line, 7⟩) (by rfl) (by rfl) (c_fault w₀ _ 4 line 7) ?_
                  repeat (with_reducible refine And.intro ?_ ?_; · first | trivial | omega | (intro hg; simp only [Bool.and_eq_true, Bool.or_eq_true, Bool.not_eq_true', Bool.and_eq_false_iff, Bool.or_eq_false_iff, Bool.not_eq_false', decide_eq_true_eq, decide_eq_false_iff_not, eqNil] at hg; omega) )
                  try simp only [vOps_nil]
                  refine aOps_store (by rfl) (by rfl) (by repeat (first | exact AHeap.set_same _ _ _ | assumption | refine (AHeap.set_ne _ _ (by first | assumption | exact Ne.symm (by assumption))).trans ?_)) sz73 (by rfl) (by rfl) (by first | exact Nat.le_refl _ | decide | (simp; done) | (simp; omega)) (Nat.zero_le _) (by rfl) ?_
                  simp only [AVal.cells]
                  simp (decide := true) only [ev, absV, absS, putD, Slots.put, Slots.get, if_true, if_false, true_and, ↓ap_assign, pop_assign, setAt, List.set_cons_zero, List.set_cons_succ, Nat.zero_add, Nat.reduceAdd, faultA]
                  repeat (with_reducible refine And.intro ?_ ?_; · first | trivial | omega | (intro hg; simp only [Bool.and_eq_true, Bool.or_eq_true, Bool.not_eq_true', Bool.and_eq_false_iff, Bool.or_eq_false_iff, Bool.not_eq_false', decide_eq_true_eq, decide_eq_false_iff_not, eqNil] at hg; omega) )
                  refine aOps_store (by rfl) (by rfl) (by repeat (first | exact AHeap.set_same _ _ _ | assumption | refine (AHeap.set_ne _ _ (by first | assumption | exact Ne.symm (by assumption))).trans ?_)) sz34 (by rfl) (by rfl) (by first | exact Nat.le_refl _ | decide | (simp; done) | (simp; omega)) (Nat.zero_le _) (by rfl) ?_
                  simp only [AVal.cells]
                  simp (decide := true) only [aOps_nil, ev, putD, Slots.get, Slots.keep, if_true, if_false, setAt, List.set_cons_zero, List.set_cons_succ, Nat.zero_add, Nat.reduceAdd]
                  repeat (with_reducible refine And.intro ?_ ?_; · first | trivial | omega | (intro hg; simp only [Bool.and_eq_true, Bool.or_eq_true, Bool.not_eq_true', Bool.and_eq_false_iff, Bool.or_eq_false_iff, Bool.not_eq_false', decide_eq_true_eq, decide_eq_false_iff_not, eqNil] at hg; omega) )
                  apply hK; clear hK K
                  refine awp_ret ?_
                  try simp only [thenA_ret, inBlockA_ret]
                  refine retA_ret h (by repeat (first | exact Sub.refl _ | assumption | refine Sub.trans_set ?_ (by assumption))) (?_) ?_
                  · simp (decide := true) only [resPre, resV_tmp, resV_cell, Slots.get, if_true, if_false, and_true, resV_tmp, resV_cell, pLoad_agg ag73 sz73, pLoad_agg ag34 sz34, rd_set, cellsAt, List.getD_cons_zero, List.getD_cons_succ, Nat.zero_add, Nat.reduceAdd, lv_bool, lv_int, lv_str, allLive, Bool.and_true, rd_ne', ne_eq, not_false_eq_true, ne_0q2_0q0.symm, cellsAt, List.getD_cons_zero, List.getD_cons_succ, Nat.zero_add, Nat.reduceAdd, lv_bool, lv_int, lv_str, allLive, Bool.and_true]
                  
                  simp (decide := true) only [Slots.get, if_true, if_false, and_true, resOfG_three, resV_tmp, resV_cell, pLoad_agg ag73 sz73, pLoad_agg ag34 sz34, rd_set, cellsAt, List.getD_cons_zero, List.getD_cons_succ, Nat.zero_add, Nat.reduceAdd, lv_bool, lv_int, lv_str, allLive, Bool.and_true, rd_ne', ne_eq, not_false_eq_true, ne_0q2_0q0.symm, cellsAt, List.getD_cons_zero, List.getD_cons_succ, Nat.zero_add, Nat.reduceAdd, lv_bool, lv_int, lv_str, allLive, Bool.and_true]
                  rw [hln, if_neg n1, if_neg n2, if_neg]
                  · rfl
                  · rintro (e | e)
                    · exact hb15 ((u8_eq _ 32).mpr e)
                    · exact hb17 ((u8_eq _ 45).mpr e)
end Go.Proofs.YtikpnhdjjabdmaaDoor

/-
  Contracts: the reader of the package columns: take.
  Conditions: none.
-/
namespace Go.Proofs.YtikpnhdjjabdmaaDoor
open Go.AM
open Go.Proofs
open Go.Col
set_option maxRecDepth 100000

def rdCells (cb : Option Buf) (x : Rd) : List AVal := [bufV 3 cb, .int .i64 x.line, .int .i64 x.col, .bool x.odd]
/-- The reader's heap: its struct, its cards, the marks of the last card; all else lies in B (the marks of the other cards in M). -/
def rdH (kx : Nat) (B : AHeap) (cb mb : Option Buf) (x : Rd) : AHeap := bufH (bufH (B.set kx ⟨rdCells cb x, 0⟩) cb) mb
def cell3 (p : CardC × AVal) : List AVal := [.bool p.1.left, .str p.1.text, p.2]
structure RdInv (w₀ : World) (h : AHeap) (kx : Nat) (B M : AHeap) (cb mb : Option Buf) (x : Rd) : Prop where
  sub : Sub h B
  subM : Sub M B
  hk : B kx = none
  okc : bufOk (B.set kx ⟨rdCells cb x, 0⟩) 3 cb
  okm : bufOk (bufH (B.set kx ⟨rdCells cb x, 0⟩) cb) 3 mb
  cards : (x.cards = [] ∧ cb = none ∧ mb = none) ∨ ∃ (done : List (CardC × AVal)) (c : CardC) (kc : Nat), x.cards = done.map (·.1) ++ [c] ∧ cb = some ⟨kc, (done.map cell3).flatten ++ [.bool c.left, .str c.text, bufV 3 mb]⟩ ∧ bufC mb = (c.marks.map markC).flatten ∧ ∀ p ∈ done, IsL w₀ M 3 p.2 (p.1.marks.map markC)

theorem bufNew {H : AHeap} {b : Option Buf} {j : Nat} (hj : bufH H b j = none) (c : Blk) : (bufH H b).set j c = bufH (H.set j c) b ∧ H j = none := by
  cases b with
  | none => exact ⟨rfl, hj⟩
  | some b =>
    have hne : j ≠ b.blk := fun e => by subst e; rw [show bufH H (some b) = H.set b.blk ⟨b.cells, 0⟩ from rfl, AHeap.set_same] at hj; cases hj
    exact ⟨AHeap.set_comm _ _ _ hne, by rw [show bufH H (some b) = H.set b.blk ⟨b.cells, 0⟩ from rfl, AHeap.set_ne _ _ hne] at hj; exact hj⟩
theorem bufOkNew {H : AHeap} {es : Nat} {b : Option Buf} (hb : bufOk H es b) {j : Nat} (hj : bufH H b j = none) (c : Blk) : bufOk (H.set j c) es b := by
  cases b with
  | none => trivial
  | some b =>
    refine ⟨?_, hb.2⟩
    have hne : j ≠ b.blk := fun e => by subst e; rw [show bufH H (some b) = H.set b.blk ⟨b.cells, 0⟩ from rfl, AHeap.set_same] at hj; cases hj
    rw [AHeap.set_ne _ _ hne.symm]
    exact hb.1
/-- Two growing slices beside each other. -/
theorem bufSwap {H : AHeap} {es : Nat} {a b : Option Buf} (ha : bufOk H es a) (hb : bufOk (bufH H a) es b) : bufH (bufH H a) b = bufH (bufH H b) a ∧ bufOk H es b ∧ bufOk (bufH H b) es a := by
  cases a with
  | none => exact ⟨rfl, hb, trivial⟩
  | some a =>
    cases b with
    | none => exact ⟨rfl, trivial, ha⟩
    | some b =>
      have hne : b.blk ≠ a.blk := fun e => by
        have := hb.1
        rw [e, show bufH H (some a) = H.set a.blk ⟨a.cells, 0⟩ from rfl, AHeap.set_same] at this
        cases this
      have hb1 : H b.blk = none := by
        have := hb.1
        rwa [show bufH H (some a) = H.set a.blk ⟨a.cells, 0⟩ from rfl, AHeap.set_ne _ _ hne] at this
      exact ⟨AHeap.set_comm _ _ _ hne, ⟨hb1, hb.2⟩, ⟨(AHeap.set_ne _ _ hne.symm).trans ha.1, ha.2⟩⟩
theorem rdH_new {w₀ : World} {h : AHeap} {kx : Nat} {B M : AHeap} {cb mb : Option Buf} {x : Rd} (hi : RdInv w₀ h kx B M cb mb x) {j : Nat} (hj : rdH kx B cb mb x j = none) (c : Blk) :
    (rdH kx B cb mb x).set j c = rdH kx (B.set j c) cb mb x ∧ RdInv w₀ h kx (B.set j c) M cb mb x ∧ j ≠ kx ∧ B j = none := by
  unfold rdH at hj
  obtain ⟨e1, h1⟩ := bufNew hj c
  obtain ⟨e2, h2⟩ := bufNew h1 c
  have hne : j ≠ kx := fun e => by subst e; rw [AHeap.set_same] at h2; cases h2
  have h3 : B j = none := by rwa [AHeap.set_ne _ _ hne] at h2
  have e3 : (B.set kx ⟨rdCells cb x, 0⟩).set j c = (B.set j c).set kx ⟨rdCells cb x, 0⟩ := AHeap.set_comm _ _ _ hne
  refine ⟨?_, ⟨Sub.trans_set hi.sub (hi.sub.none h3), Sub.trans_set hi.subM (hi.subM.none h3), (AHeap.set_ne _ _ hne.symm).trans hi.hk, ?_, ?_, hi.cards⟩, hne, h3⟩
  · unfold rdH
    rw [e1, e2, e3]
  · rw [← e3]
    exact bufOkNew hi.okc h1 c
  · rw [← e3, ← e2]
    exact bufOkNew hi.okm hj c
section
variable {w₀ : World} {h : AHeap} {kx : Nat} {B M : AHeap} {cb mb : Option Buf} {x : Rd}
theorem RdInv.at (hi : RdInv w₀ h kx B M cb mb x) : rdH kx B cb mb x kx = some ⟨rdCells cb x, 0⟩ := bufAt hi.okm (bufAt hi.okc (AHeap.set_same _ _ _))
theorem RdInv.other (hi : RdInv w₀ h kx B M cb mb x) {j : Nat} {c : Blk} (hj : B j = some c) : rdH kx B cb mb x j = some c :=
  bufAt hi.okm (bufAt hi.okc ((AHeap.set_ne _ _ (fun e => by subst e; rw [hi.hk] at hj; cases hj)).trans hj))
theorem RdInv.above (hi : RdInv w₀ h kx B M cb mb x) : Sub h (rdH kx B cb mb x) := fun _ _ hj => hi.other (hi.sub _ _ hj)
/-- A block beside is written. -/
theorem RdInv.put (hi : RdInv w₀ h kx B M cb mb x) {j : Nat} {c : Blk} (hj : B j = some c) (hh : h j = none) (hM : M j = none) (d : Blk) : (rdH kx B cb mb x).set j d = rdH kx (B.set j d) cb mb x ∧ RdInv w₀ h kx (B.set j d) M cb mb x := by
  have hne : j ≠ kx := fun e => by subst e; rw [hi.hk] at hj; cases hj
  have hj1 : B.set kx ⟨rdCells cb x, 0⟩ j = some c := (AHeap.set_ne _ _ hne).trans hj
  have e3 : (B.set kx ⟨rdCells cb x, 0⟩).set j d = (B.set j d).set kx ⟨rdCells cb x, 0⟩ := AHeap.set_comm _ _ _ hne
  refine ⟨?_, ⟨Sub.trans_set hi.sub hh, Sub.trans_set hi.subM hM, (AHeap.set_ne _ _ hne.symm).trans hi.hk, ?_, ?_, hi.cards⟩⟩
  · unfold rdH
    rw [bufSet hi.okm (bufAt hi.okc hj1), bufSet hi.okc hj1, e3]
  · rw [← e3]
    exact bufOkSet hi.okc hj1 d
  · rw [← e3, ← bufSet hi.okc hj1]
    exact bufOkSet hi.okm (bufAt hi.okc hj1) d
theorem cell3_wide : ∀ p : CardC × AVal, (cell3 p).length = 3 := fun _ => rfl
theorem RdInv.many (hi : RdInv w₀ h kx B M cb mb x) : (bufC cb).length / 3 = x.cards.length := by
  rcases hi.cards with ⟨c1, c2, _⟩ | ⟨done, c', kc, c1, c2, c3, c4⟩
  · rw [c1, c2]; rfl
  · rw [c1, c2]
    simp only [bufC, List.length_append, List.length_map, List.length_cons, List.length_nil]
    rw [flatten_len (es := 3) (by intro y hy; obtain ⟨p, _, rfl⟩ := List.mem_map.1 hy; rfl), List.length_map]
    omega
theorem buf_len (P : Program) {t e : TypeId} (ht : P.underlying t = some (.slice e)) (es : Nat) (b : Option Buf) : pLen P t (bufV es b) = ⟨True, .int .i64 ((bufC b).length / es : Nat)⟩ := by
  cases b with
  | none => simp [bufV, bufC, pLen, ht]
  | some b => simp only [bufV, bufC, pLen, ht]
end
end Go.Proofs.YtikpnhdjjabdmaaDoor

/-
  Contracts: the reader of the package columns: take, walked.
  Conditions: none.
-/
namespace Go.Proofs.YtikpnhdjjabdmaaDoor
open Go.AM
open Go.Proofs
open Go.Col
set_option maxRecDepth 100000

theorem addE_last {x : Rd} {l : List CardC} {c : CardC} (hx : x.cards = l ++ [c]) (line col : Int) (t : Str) : addE x line col t = ⟨l ++ [addC c line col t], line, col, oddQ (c.text ++ t)⟩ := by
  unfold addE
  rw [hx]
  simp
theorem bufV_some (es : Nat) (b : Buf) : bufV es (some b) = .slice (.own b.blk) 0 (b.cells.length / es) (.grow es) := rfl
/-- A part behind the last card, in the reader's heap. -/
theorem c_addR (w₀ : World) (h : AHeap) (kx : Nat) (B M : AHeap) (cb mb : Option Buf) (x : Rd) (hi : RdInv w₀ h kx B M cb mb x) (hx : x.cards ≠ []) (line col : Int) (t : Str) (hb : ∀ c ∈ x.cards, c.text.length ≤ 549755813888 ∧ c.marks.length ≤ 549755813888) (hn : x.cards.length ≤ 549755813888) (ht : t.length ≤ 80) :
    ACall Tryd.prog w₀ 56 [.ptr (.own kx) 0, .int .i64 line, .int .i64 col, .str t] (rdH kx B cb mb x)
      (fun v h' => v = .tuple [] ∧ ∃ cb' mb', h' = rdH kx B cb' mb' (addE x line col t) ∧ RdInv w₀ h kx B M cb' mb' (addE x line col t)) := by
  rcases hi.cards with ⟨c1, _⟩ | ⟨done, c, kc, c1, c2, c3, c4⟩
  · exact absurd c1 hx
  have hD : ((done.map cell3).flatten).length = done.length * 3 := by
    rw [flatten_len (es := 3) (by intro y hy; obtain ⟨p, _, rfl⟩ := List.mem_map.1 hy; rfl), List.length_map]
  have hlen : x.cards.length = done.length + 1 := by rw [c1]; simp
  have hcm : c ∈ x.cards := by rw [c1]; simp
  obtain ⟨b1, b2⟩ := hb c hcm
  have hokc := hi.okc
  have hokm := hi.okm
  have hL : ((done.map cell3).flatten ++ [.bool c.left, .str c.text, bufV 3 mb]).length / 3 = done.length + 1 := by
    rw [List.length_append, hD]
    simp only [List.length_cons, List.length_nil]
    omega
  have hv : bufV 3 cb = .slice (.own kc) 0 (done.length + 1) (.grow 3) := by
    rw [c2, bufV_some, hL]
  subst c2
  have hkc : kc ≠ kx := fun e => by
    have := hokc.1
    simp only [e, AHeap.set_same] at this
    cases this
  have hBc : B kc = none := by
    have := hokc.1
    rwa [AHeap.set_ne _ _ hkc] at this
  have call := c_add w₀ (bufH (B.set kx ⟨rdCells (some ⟨kc, (done.map cell3).flatten ++ [.bool c.left, .str c.text, bufV 3 mb]⟩) x, 0⟩) (some ⟨kc, (done.map cell3).flatten ++ [.bool c.left, .str c.text, bufV 3 mb]⟩)) kx kc (done.map cell3).flatten done.length mb c x.line x.col x.odd line col t
    (by rw [show bufH (B.set kx ⟨rdCells (some ⟨kc, (done.map cell3).flatten ++ [.bool c.left, .str c.text, bufV 3 mb]⟩) x, 0⟩) (some ⟨kc, (done.map cell3).flatten ++ [.bool c.left, .str c.text, bufV 3 mb]⟩) = (B.set kx ⟨rdCells (some ⟨kc, (done.map cell3).flatten ++ [.bool c.left, .str c.text, bufV 3 mb]⟩) x, 0⟩).set kc ⟨(done.map cell3).flatten ++ [.bool c.left, .str c.text, bufV 3 mb], 0⟩ from rfl, AHeap.set_ne _ _ hkc.symm, AHeap.set_same]; unfold rdCells; rw [hv])
    (AHeap.set_same _ _ _) hD hokm c3 (by omega) (by omega) (by omega)
  refine call.mono fun v h' hr => ?_
  obtain ⟨e1, mb', e2, o1, o2⟩ := hr
  have hadd := addE_last c1 line col t
  have hL' : ((done.map cell3).flatten ++ [.bool c.left, .str (addC c line col t).text, bufV 3 mb']).length / 3 = done.length + 1 := by
    rw [List.length_append, hD]
    simp only [List.length_cons, List.length_nil]
    omega
  have hcells : rdCells (some ⟨kc, (done.map cell3).flatten ++ [.bool c.left, .str (addC c line col t).text, bufV 3 mb']⟩) (addE x line col t) = [.slice (.own kc) 0 (done.length + 1) (.grow 3), .int .i64 line, .int .i64 col, .bool (oddQ (c.text ++ t))] := by
    unfold rdCells
    rw [hadd, bufV_some, hL']
  have hH : (((bufH (B.set kx ⟨rdCells (some ⟨kc, (done.map cell3).flatten ++ [.bool c.left, .str c.text, bufV 3 mb]⟩) x, 0⟩) (some ⟨kc, (done.map cell3).flatten ++ [.bool c.left, .str c.text, bufV 3 mb]⟩)).set kx ⟨[.slice (.own kc) 0 (done.length + 1) (.grow 3), .int .i64 line, .int .i64 col, .bool (oddQ (c.text ++ t))], 0⟩).set kc ⟨(done.map cell3).flatten ++ [.bool c.left, .str (addC c line col t).text, bufV 3 mb'], 0⟩)
      = bufH (B.set kx ⟨rdCells (some ⟨kc, (done.map cell3).flatten ++ [.bool c.left, .str (addC c line col t).text, bufV 3 mb']⟩) (addE x line col t), 0⟩) (some ⟨kc, (done.map cell3).flatten ++ [.bool c.left, .str (addC c line col t).text, bufV 3 mb']⟩) := by
    rw [hcells]
    simp only [bufH]
    rw [AHeap.set_comm _ _ _ hkc.symm, AHeap.set_set, AHeap.set_set]
  rw [hH] at e2 o1
  refine ⟨e1, _, mb', e2, ⟨hi.sub, hi.subM, hi.hk, ?_, o1, .inr ⟨done, addC c line col t, kc, by rw [hadd], ?_, o2, c4⟩⟩⟩
  · refine ⟨(AHeap.set_ne _ _ hkc).trans hBc, ?_, ?_⟩
    · rw [List.length_append, hD]
      simp only [List.length_cons, List.length_nil]
      omega
    · have hlv := hokc.2.2
      rw [allLive_append, Bool.and_eq_true] at hlv ⊢
      refine ⟨hlv.1, ?_⟩
      show (true && (true && ((bufV 3 mb').live && true))) = true
      rw [bufV_live]
      rfl
  · have hleft : (addC c line col t).left = c.left := rfl
    rw [hleft]

theorem bufPut {H : AHeap} {es : Nat} {b : Option Buf} {j : Nat} {c d : Blk} (hb : bufOk (H.set j c) es b) : bufH (H.set j d) b = (bufH H b).set j d ∧ bufOk H es b ∧ bufH H b j = H j := by
  cases b with
  | none => exact ⟨rfl, trivial, rfl⟩
  | some b =>
    have hne : b.blk ≠ j := fun e => by
      have := hb.1
      rw [e, AHeap.set_same] at this
      cases this
    have h1 : H b.blk = none := by have := hb.1; rwa [AHeap.set_ne _ _ hne] at this
    exact ⟨AHeap.set_comm _ _ _ hne, ⟨h1, hb.2⟩, AHeap.set_ne _ _ hne.symm⟩
theorem RdInv.chunks {w₀ : World} {h : AHeap} {kx : Nat} {B M : AHeap} {cb mb : Option Buf} {x : Rd} (hi : RdInv w₀ h kx B M cb mb x) : ∃ zs : List (List AVal), bufC cb = zs.flatten ∧ (∀ z ∈ zs, z.length = 3) ∧ zs.length = x.cards.length := by
  rcases hi.cards with ⟨c1, c2, _⟩ | ⟨done, c, kc, c1, c2, c3, c4⟩
  · exact ⟨[], by rw [c2]; rfl, by simp, by rw [c1]; rfl⟩
  · refine ⟨done.map cell3 ++ [[.bool c.left, .str c.text, bufV 3 mb]], by rw [c2]; simp [bufC], ?_, by rw [c1]; simp⟩
    intro z hz
    rw [List.mem_append] at hz
    rcases hz with hz | hz
    · obtain ⟨p, _, rfl⟩ := List.mem_map.1 hz; rfl
    · rw [List.mem_singleton.1 hz]; rfl
/-- A new card stands behind the others: the last card's marks are at rest. -/
theorem RdInv.push {w₀ : World} {h : AHeap} {kx : Nat} {B M : AHeap} {cb mb : Option Buf} {x : Rd} (hi : RdInv w₀ h kx B M cb mb x) (left : Bool) {cb' : Option Buf} {h5 : AHeap}
    (o1 : bufOk (bufH (B.set kx ⟨rdCells cb x, 0⟩) mb) 3 cb') (o2 : bufC cb' = bufC cb ++ [.bool left, .str [], .nilSlice]) (o3 : Sub (bufH (bufH (B.set kx ⟨rdCells cb x, 0⟩) mb) cb') h5) :
    RdInv w₀ h kx (bufH B mb) (bufH M mb) cb' none ⟨x.cards ++ [⟨left, [], []⟩], x.line, x.col, x.odd⟩ ∧ Sub (rdH kx (bufH B mb) cb' none ⟨x.cards ++ [⟨left, [], []⟩], x.line, x.col, x.odd⟩) (h5.set kx ⟨rdCells cb' ⟨x.cards ++ [⟨left, [], []⟩], x.line, x.col, x.odd⟩, 0⟩) ∧ (∀ j c, B j = some c → bufH B mb j = some c) ∧ ∀ j c, B j = some c → M j = none → bufH M mb j = none := by
  obtain ⟨q1, q2, q3⟩ := bufSwap hi.okc hi.okm
  obtain ⟨p1, p2, p3⟩ := bufPut (d := ⟨rdCells cb x, 0⟩) q2
  have hsub : Sub B (bufH B mb) := Sub.buf p2
  rw [p1] at o1 o3
  obtain ⟨r1, r2, r3⟩ := bufPut (d := ⟨rdCells cb' ⟨x.cards ++ [⟨left, [], []⟩], x.line, x.col, x.odd⟩, 0⟩) o1
  obtain ⟨s1, _, _⟩ := bufPut (d := ⟨rdCells cb x, 0⟩) o1
  have pM : bufOk M 3 mb := p2.sub hi.subM
  have hsubM : Sub M (bufH M mb) := Sub.buf pM
  have hMB : Sub (bufH M mb) (bufH B mb) := by
    cases mb with
    | none => exact hi.subM
    | some b => exact Sub.set_both hi.subM _ _
  refine ⟨⟨hi.sub.trans hsub, hMB, p3.trans hi.hk, ?_, trivial, .inr ?_⟩, ?_, fun j c hj => hsub _ _ hj, fun j c hj hM => ?_⟩
  · have := bufOkSet o1 (AHeap.set_same _ _ _) ⟨rdCells cb' ⟨x.cards ++ [⟨left, [], []⟩], x.line, x.col, x.odd⟩, 0⟩
    rwa [AHeap.set_set] at this
  · have hsome : ∃ kc, cb' = some ⟨kc, bufC cb ++ [.bool left, .str [], .nilSlice]⟩ := by
      cases cb' with
      | none => simp [bufC] at o2
      | some b => exact ⟨b.blk, by rw [← o2]; rfl⟩
    obtain ⟨kc', hcb'⟩ := hsome
    rcases hi.cards with ⟨c1, c2, c3⟩ | ⟨done, c, kc, c1, c2, c3, c4⟩
    · refine ⟨[], ⟨left, [], []⟩, kc', by rw [c1]; rfl, by rw [hcb', c2]; rfl, rfl, by simp⟩
    · refine ⟨done ++ [(c, bufV 3 mb)], ⟨left, [], []⟩, kc', by rw [c1]; simp, ?_, rfl, ?_⟩
      · rw [hcb', c2]
        simp [bufC, cell3, bufV]
      · intro p hp
        rw [List.mem_append] at hp
        rcases hp with hp | hp
        · exact (c4 p hp).mono hsubM
        · rw [List.mem_singleton.1 hp]
          exact IsL.buf pM (by decide) c3 (by intro y hy; obtain ⟨m, _, rfl⟩ := List.mem_map.1 hy; rfl) (Sub.refl _)
  · show Sub (bufH ((bufH B mb).set kx ⟨rdCells cb' ⟨x.cards ++ [⟨left, [], []⟩], x.line, x.col, x.odd⟩, 0⟩) cb') _
    rw [r1]
    rw [s1] at o3
    have := Sub.set_both o3 kx ⟨rdCells cb' ⟨x.cards ++ [⟨left, [], []⟩], x.line, x.col, x.odd⟩, 0⟩
    rwa [AHeap.set_set] at this
  · cases mb with
    | none => exact hM
    | some b =>
      have : j ≠ b.blk := fun e => by
        have := p2.1
        rw [← e, hj] at this
        cases this
      exact (AHeap.set_ne _ _ this).trans hM
end Go.Proofs.YtikpnhdjjabdmaaDoor

