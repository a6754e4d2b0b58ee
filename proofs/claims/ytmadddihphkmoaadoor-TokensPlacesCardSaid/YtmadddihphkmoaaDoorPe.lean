/-
  Texts of this proof, joined: TkI, TkJ, LbA, LbB, TkK.
  Conditions: none.
-/
import Derived.Test.YtmadddihphkmoaaDoorPd
import Derived.Shelf.Strings.SlTrimAscii
import Derived.Test.YtmadddihphkmoaaDoorPb
import Derived.Test.YtmadddihphkmoaaDoorPc
set_option linter.unusedSimpArgs false
set_option linter.unnecessarySimpa false
set_option linter.unusedVariables false
/-
  Contracts: picture, number of the scanner.
  Conditions: none.
-/
namespace Go.Proofs.YtmadddihphkmoaaDoor
open Go.AM
open Go.Proofs
open Go.Col
open Go.Tok
open Go.RowKit (Below)
set_option maxRecDepth 100000

theorem c_pictureF (w₀ : World) (h : AHeap) (kx : Nat) (lf : Bool) (s : Str) (mv tv : AVal) (i : Nat) (eb_x : h kx = some ⟨[.bool lf, .str s, mv, .int .i64 i, tv], 0⟩) (h32 : peekE s i ≠ 32) (hs : s.length ≤ 1099511627776) :
    ACall Tryd.prog w₀ 66 [.ptr (.own kx) 0, .bool false] h (fun r h' => r = nxR (pictureE s i false) ∧ h' = h) := by
  have hs_h : Sub h h := Sub.refl h
  refine acall_intro (n := 68) (rs := [.cell 4 35, .tmp 5, .tmp 6]) Tryd.func66 rfl rfl rfl rfl (Nat.le_of_ble_eq_true rfl) ?_
  simp only [initSlots]
  -- region 0  tokens.go:86
  refine awp_rseq [0, 1, 4] (by rfl) fun K hK => ?_
  refine aOps_alloc ze35 (cs := [.int .u8 0, .str [], .int .i64 0, .int .i64 0, .bool false]) (by rfl) fun k0q0 hk0q0 => ?_
  have hn_0q0 : h k0q0 = none := by first | assumption | (simp only [AHeap.set_none] at hk0q0; simp only [hk0q0])
  have hf_0q0 : h k0q0 = none := Sub.none hs_h hn_0q0
  have ne_0q0_x : k0q0 ≠ kx := AHeap.ne_some hn_0q0 eb_x
  simp (decide := true) only [aOps_nil, ev, absV, absS, putD, Slots.put, Slots.keep, if_true, if_false, true_and, ↓ap_assign, pop_assign, Nat.zero_add]
  repeat (with_reducible refine And.intro ?_ ?_; · first | trivial | omega | (intro hg; simp only [Bool.and_eq_true, Bool.or_eq_true, Bool.not_eq_true', Bool.and_eq_false_iff, Bool.or_eq_false_iff, Bool.not_eq_false', decide_eq_true_eq, decide_eq_false_iff_not, eqNil] at hg; omega) )
  apply hK; clear hK K
  refine awp_seq ?_
  -- region 1  tokens.go:87
  refine awp_rseq [0, 4, 27] (by rfl) fun K hK => ?_
  simp (decide := true) only [ev, putD, Slots.put, Slots.get, if_true, if_false, true_and, ↓ap_move, pop_move, ↓ag_move, agP, agQ_some, nthDst, gKnown_bool, guardB_bool_true, implies_true, condV_false]
  repeat (with_reducible refine And.intro ?_ ?_; · first | trivial | omega | (intro hg; simp only [Bool.and_eq_true, Bool.or_eq_true, Bool.not_eq_true', Bool.and_eq_false_iff, Bool.or_eq_false_iff, Bool.not_eq_false', decide_eq_true_eq, decide_eq_false_iff_not, eqNil] at hg; omega) )
  refine aOps_no (by rfl) (by rfl) ?_
  simp (decide := true) only [ev, putD, Slots.put, Slots.get, if_true, if_false, true_and, nthDst, guardB_bool_true, ↓ag_move, pop_move, agP, agQ_some, gKnown_bool, implies_true, condV_false]
  repeat (with_reducible refine And.intro ?_ ?_; · first | trivial | omega | (intro hg; simp only [Bool.and_eq_true, Bool.or_eq_true, Bool.not_eq_true', Bool.and_eq_false_iff, Bool.or_eq_false_iff, Bool.not_eq_false', decide_eq_true_eq, decide_eq_false_iff_not, eqNil] at hg; omega) )
  refine aOps_no (by rfl) (by rfl) ?_
  try simp (decide := true) only [putD, Slots.put, if_false]
  refine aOps_no (by rfl) (by rfl) ?_
  try simp (decide := true) only [putD, Slots.put, if_false]
  refine aOps_no (by rfl) (by rfl) ?_
  try simp (decide := true) only [putD, Slots.put, if_false]
  refine aOps_no (by rfl) (by rfl) ?_
  simp (decide := true) only [ev, absV, absS, putD, Slots.put, Slots.get, if_true, if_false, true_and, nthDst, guardB_bool_true, ↓ag_binOp, pop_binOp, agP, agQ_some, gKnown_bool, implies_true, condV_false, false_implies, pickV_false, isNilC_str, cond_false, ↓ap_pick, pop_pick, pPick_bool, ↓ap_move, pop_move, ↓ag_move]
  repeat (with_reducible refine And.intro ?_ ?_; · first | trivial | omega | (intro hg; simp only [Bool.and_eq_true, Bool.or_eq_true, Bool.not_eq_true', Bool.and_eq_false_iff, Bool.or_eq_false_iff, Bool.not_eq_false', decide_eq_true_eq, decide_eq_false_iff_not, eqNil] at hg; omega) )
  first
  | (refine aOps_yes (by rfl) ?_; refine aOps_callV (V := _) (by rfl) (by rfl) (?_) ?_)
  | (refine aOps_no (by rfl) (by rfl) ?_)
  | (refine aOps_gcall (V := _) (f := _) (cap := _) (xs := _) (by first | rfl | (simp (decide := true) only [gv, nthDst, Slots.get, if_true, if_false, gKnown_cond, gKnown_bool])) (fun hg => ⟨rfl, ?_⟩) (fun hg => ?_) ?_; · (simp (decide := true) only [gv, nthDst, putD, Slots.put, Slots.get, if_true, if_false, guardB_bool_true, guardB_bool_false, guardB_cond, Bool.not_not] at hg; simp (decide := true) only [evs, ev, putD, Slots.put, Slots.get, if_true, if_false, hg, condV_true, List.append_nil, List.map_cons, List.map_nil, absV, absS] <;> try rfl))
  try simp (decide := true) only [putD, Slots.put, if_false]
  first
  | (refine aOps_yes (by rfl) ?_; refine aOps_callV (V := _) (by rfl) (by rfl) (?_) ?_)
  | (refine aOps_no (by rfl) (by rfl) ?_)
  | (refine aOps_gcall (V := _) (f := _) (cap := _) (xs := _) (by first | rfl | (simp (decide := true) only [gv, nthDst, Slots.get, if_true, if_false, gKnown_cond, gKnown_bool])) (fun hg => ⟨rfl, ?_⟩) (fun hg => ?_) ?_; · (simp (decide := true) only [gv, nthDst, putD, Slots.put, Slots.get, if_true, if_false, guardB_bool_true, guardB_bool_false, guardB_cond, Bool.not_not] at hg; simp (decide := true) only [evs, ev, putD, Slots.put, Slots.get, if_true, if_false, hg, condV_true, List.append_nil, List.map_cons, List.map_nil, absV, absS] <;> try rfl))
  simp (decide := true) only [aOps_nil, ev, absV, absS, putD, Slots.put, Slots.get, Slots.keep, if_true, if_false, true_and, nthDst, guardB_bool_true, ↓ag_unOp, pop_unOp, agP, agQ_some, gKnown_bool, condV_false, false_implies, pickV_false, ↓ap_pick, pop_pick, pPick_bool]
  try simp (disch := omega) only [wrap_i64, wrap_u8]
  repeat (with_reducible refine And.intro ?_ ?_; · first | trivial | omega | (intro hg; simp only [Bool.and_eq_true, Bool.or_eq_true, Bool.not_eq_true', Bool.and_eq_false_iff, Bool.or_eq_false_iff, Bool.not_eq_false', decide_eq_true_eq, decide_eq_false_iff_not, eqNil] at hg; omega) )
  apply hK; clear hK K
  refine awp_cond (b := _) rfl (fun hb1 => ?_) (fun hb1 => ?_)
  · exact absurd hb1 (by decide)
  · try simp only at hb1
    refine awp_skip ?_
    change Awp _ _ _ _ _ _ _
    refine Awp.keep [0, 4] ?_
    exact pictureEnd w₀ h _ (Sub.set hk0q0) kx k0q0 lf s mv tv i false ((by repeat (first | exact AHeap.set_same _ _ _ | assumption | refine (AHeap.set_ne _ _ (by first | assumption | exact Ne.symm (by assumption))).trans ?_))) ((by repeat (first | exact AHeap.set_same _ _ _ | assumption | refine (AHeap.set_ne _ _ (by first | assumption | exact Ne.symm (by assumption))).trans ?_))) hk0q0 ne_0q0_x h32 hs (by rintro ⟨q, _⟩; cases q)
theorem c_pictureT (w₀ : World) (h : AHeap) (kx : Nat) (lf : Bool) (s : Str) (mv tv : AVal) (i : Nat) (eb_x : h kx = some ⟨[.bool lf, .str s, mv, .int .i64 i, tv], 0⟩) (h32 : peekE s i ≠ 32) (hs : s.length ≤ 1099511627776) :
    ACall Tryd.prog w₀ 66 [.ptr (.own kx) 0, .bool true] h (fun r h' => r = nxR (pictureE s i true) ∧ h' = h) := by
  have hs_h : Sub h h := Sub.refl h
  have hi := peekE_in h32
  have hcv := fun (h : AHeap) (k : Nat) => (IsB.own (w₀ := w₀) (bs := [peekE s i, peekE s (i + 1)]) (f := 0) (n := 2) (AHeap.set_same h k ⟨byteCells [peekE s i, peekE s (i + 1)], 0⟩) rfl (c := .exact 2) (Nat.le_refl 2)).conv Tryd.underlying77 Tryd.underlying9 Tryd.underlying5
  simp only [byteCells, List.map_cons, List.map_nil] at hcv
  refine acall_intro (n := 68) (rs := [.cell 4 35, .tmp 5, .tmp 6]) Tryd.func66 rfl rfl rfl rfl (Nat.le_of_ble_eq_true rfl) ?_
  simp only [initSlots]
  -- region 0  tokens.go:86
  refine awp_rseq [0, 1, 4] (by rfl) fun K hK => ?_
  refine aOps_alloc ze35 (cs := [.int .u8 0, .str [], .int .i64 0, .int .i64 0, .bool false]) (by rfl) fun k0q0 hk0q0 => ?_
  have hn_0q0 : h k0q0 = none := by first | assumption | (simp only [AHeap.set_none] at hk0q0; simp only [hk0q0])
  have hf_0q0 : h k0q0 = none := Sub.none hs_h hn_0q0
  have ne_0q0_x : k0q0 ≠ kx := AHeap.ne_some hn_0q0 eb_x
  simp (decide := true) only [aOps_nil, ev, absV, absS, putD, Slots.put, Slots.keep, if_true, if_false, true_and, ↓ap_assign, pop_assign, Nat.zero_add]
  repeat (with_reducible refine And.intro ?_ ?_; · first | trivial | omega | (intro hg; simp only [Bool.and_eq_true, Bool.or_eq_true, Bool.not_eq_true', Bool.and_eq_false_iff, Bool.or_eq_false_iff, Bool.not_eq_false', decide_eq_true_eq, decide_eq_false_iff_not, eqNil] at hg; omega) )
  apply hK; clear hK K
  refine awp_seq ?_
  -- region 1  tokens.go:87
  refine awp_rseq [0, 4, 27] (by rfl) fun K hK => ?_
  simp (decide := true) only [ev, putD, Slots.put, Slots.get, if_true, if_false, true_and, ↓ap_move, pop_move, ↓ag_move, agP, agQ_some, nthDst, gKnown_bool, guardB_bool_true, implies_true, condV_true, condV_true]
  repeat (with_reducible refine And.intro ?_ ?_; · first | trivial | omega | (intro hg; simp only [Bool.and_eq_true, Bool.or_eq_true, Bool.not_eq_true', Bool.and_eq_false_iff, Bool.or_eq_false_iff, Bool.not_eq_false', decide_eq_true_eq, decide_eq_false_iff_not, eqNil] at hg; omega) )
  refine aOps_yes (by rfl) ?_
  refine aOps_callV (V := .int .u8 (peekE s i).toNat) (by rfl) (by rfl) (c_peek0 w₀ _ kx lf s mv tv i ((by repeat (first | exact AHeap.set_same _ _ _ | assumption | refine (AHeap.set_ne _ _ (by first | assumption | exact Ne.symm (by assumption))).trans ?_))) (by omega)) ?_
  simp (decide := true) only [ev, putD, Slots.put, Slots.get, if_true, if_false, true_and, ↓ag_move, pop_move, agP, agQ_some, nthDst, gKnown_bool, guardB_bool_true, implies_true, condV_true, condV_true]
  repeat (with_reducible refine And.intro ?_ ?_; · first | trivial | omega | (intro hg; simp only [Bool.and_eq_true, Bool.or_eq_true, Bool.not_eq_true', Bool.and_eq_false_iff, Bool.or_eq_false_iff, Bool.not_eq_false', decide_eq_true_eq, decide_eq_false_iff_not, eqNil] at hg; omega) )
  refine aOps_yes (by rfl) ?_
  refine aOps_callV (V := .int .u8 (peekE s (i + 1)).toNat) (by rfl) (by rfl) (c_peek w₀ _ kx lf s mv tv i 1 ((by repeat (first | exact AHeap.set_same _ _ _ | assumption | refine (AHeap.set_ne _ _ (by first | assumption | exact Ne.symm (by assumption))).trans ?_))) (by omega) (by omega) (by omega)) ?_
  refine aOps_yes (by rfl) ?_
  refine aOps_buildSlice (cs := [.int .u8 (peekE s i).toNat, .int .u8 (peekE s (i + 1)).toNat]) (by kernel_rfl) fun k1q6 hk1q6 => ?_
  have ne_1q6_0q0 : k1q6 ≠ k0q0 := by simp only [AHeap.set_none] at hk1q6; simp only [hk1q6, ne_eq, not_false_eq_true]
  have hn_1q6 : h k1q6 = none := by first | assumption | (simp only [AHeap.set_none] at hk1q6; simp only [hk1q6])
  have hf_1q6 : h k1q6 = none := Sub.none hs_h hn_1q6
  have ne_1q6_x : k1q6 ≠ kx := AHeap.ne_some hn_1q6 eb_x
  simp (decide := true) only [ev, putD, Slots.put, Slots.get, if_true, if_false, true_and, ↓ag_convert _ _ _ (es_str Tryd.underlying77 Tryd.underlying9), pop_convert, agP, agQ_some, nthDst, gKnown_bool, guardB_bool_true, implies_true, condV_true, condV_true, hcv]
  try simp (disch := omega) only [wrap_i64, wrap_u8]
  repeat (with_reducible refine And.intro ?_ ?_; · first | trivial | omega | (intro hg; simp only [Bool.and_eq_true, Bool.or_eq_true, Bool.not_eq_true', Bool.and_eq_false_iff, Bool.or_eq_false_iff, Bool.not_eq_false', decide_eq_true_eq, decide_eq_false_iff_not, eqNil] at hg; omega) )
  refine aOps_yes (by rfl) ?_
  refine aOps_callV (V := .str (foldE [peekE s i, peekE s (i + 1)])) (by rfl) (by rfl) (by rw [← fold_eq]; exact c_fold w₀ _ [peekE s i, peekE s (i + 1)] (by simp)) ?_
  simp (decide := true) only [ev, absV, absS, putD, Slots.put, Slots.get, if_true, if_false, true_and, ↓ag_binOp, pop_binOp, agP, agQ_some, nthDst, gKnown_bool, guardB_bool_true, implies_true, condV_true, isNilC_str, cond_false, pBinX_str, pS_eql, ↓ap_pick, pop_pick, pPick_bool, ↓ap_move, pop_move, ↓ag_move, condV_true, pickV_bool, cond_true, cond_false]
  repeat (with_reducible refine And.intro ?_ ?_; · first | trivial | omega | (intro hg; simp only [Bool.and_eq_true, Bool.or_eq_true, Bool.not_eq_true', Bool.and_eq_false_iff, Bool.or_eq_false_iff, Bool.not_eq_false', decide_eq_true_eq, decide_eq_false_iff_not, eqNil] at hg; omega) )
  first
  | (refine aOps_yes (by rfl) ?_; refine aOps_callV (V := .int .u8 (peekE s (i + 2)).toNat) (by rfl) (by rfl) (c_peek w₀ _ kx lf s mv tv i 2 ((by repeat (first | exact AHeap.set_same _ _ _ | assumption | refine (AHeap.set_ne _ _ (by first | assumption | exact Ne.symm (by assumption))).trans ?_))) (by omega) (by omega) (by omega)) ?_)
  | (refine aOps_no (by rfl) (by rfl) ?_)
  | (refine aOps_gcall (V := .int .u8 (peekE s (i + 2)).toNat) (f := _) (cap := _) (xs := _) (by first | rfl | (simp (decide := true) only [gv, nthDst, Slots.get, if_true, if_false, gKnown_cond, gKnown_bool])) (fun hg => ⟨rfl, ?_⟩) (fun hg => c_peek w₀ _ kx lf s mv tv i 2 ((by repeat (first | exact AHeap.set_same _ _ _ | assumption | refine (AHeap.set_ne _ _ (by first | assumption | exact Ne.symm (by assumption))).trans ?_))) (by omega) (by omega) (by omega)) ?_; · (simp (decide := true) only [gv, nthDst, Slots.get, if_true, if_false, guardB_bool_true] at hg; simp (decide := true) only [evs, ev, Slots.get, if_true, if_false, hg, condV_true, List.append_nil, List.map_cons, List.map_nil, absV, absS] <;> try rfl))
  try simp (decide := true) only [putD, Slots.put, Slots.get, if_true, if_false, gv, nthDst, guardB_bool_true]
  first
  | (refine aOps_yes (by rfl) ?_; refine aOps_callV (V := .bool (wordyB (peekE s (i + 2)))) (by rfl) (by rfl) (c_wordy w₀ _ _) ?_)
  | (refine aOps_no (by rfl) (by rfl) ?_)
  | (refine aOps_gcall (V := .bool (wordyB (peekE s (i + 2)))) (f := _) (cap := _) (xs := _) (by first | rfl | (simp (decide := true) only [gv, nthDst, Slots.get, if_true, if_false, gKnown_cond, gKnown_bool])) (fun hg => ⟨rfl, ?_⟩) (fun hg => c_wordy w₀ _ _) ?_; · (simp (decide := true) only [gv, nthDst, Slots.get, if_true, if_false, guardB_bool_true] at hg; simp (decide := true) only [evs, ev, Slots.get, if_true, if_false, hg, condV_true, List.append_nil, List.map_cons, List.map_nil] <;> try rfl))
  simp (decide := true) only [aOps_nil, ev, absV, absS, putD, Slots.put, Slots.get, Slots.keep, if_true, if_false, true_and, gv, nthDst, guardB_bool_true, ↓ag_unOp, pop_unOp, agP, agQ_some, gKnown_bool, implies_true, pU_not, cv_un, cp_un, ↓ap_pick, pop_pick, pPick_bool, pickV_cond_l, pickV_bool]
  try simp (disch := omega) only [wrap_i64, wrap_u8]
  repeat (with_reducible refine And.intro ?_ ?_; · first | trivial | omega | (intro hg; simp only [Bool.and_eq_true, Bool.or_eq_true, Bool.not_eq_true', Bool.and_eq_false_iff, Bool.or_eq_false_iff, Bool.not_eq_false', decide_eq_true_eq, decide_eq_false_iff_not, eqNil] at hg; omega) )
  apply hK; clear hK K
  refine awp_cond (b := _) rfl (fun hb1 => ?_) (fun hb1 => ?_)
  · try simp only [decide_eq_true_eq, decide_eq_false_iff_not, Bool.not_eq_true', Bool.not_eq_false', Bool.and_eq_true, Bool.and_eq_false_iff, Bool.or_eq_true, Bool.or_eq_false_iff, Bool.true_eq, Bool.false_eq, reduceCtorEq] at hb1
    -- region 2  tokens.go:88
    refine awp_rseq [4, 5, 6] (by rfl) fun K hK => ?_
    simp (decide := true) only [ev, absV, absS, putD, Slots.put, Slots.get, if_false, true_and, ↓ap_build, ↓pop_buildL, bld35_0_1, evP, List.map_cons, List.map_nil]
    repeat (with_reducible refine And.intro ?_ ?_; · first | trivial | omega | (intro hg; simp only [Bool.and_eq_true, Bool.or_eq_true, Bool.not_eq_true', Bool.and_eq_false_iff, Bool.or_eq_false_iff, Bool.not_eq_false', decide_eq_true_eq, decide_eq_false_iff_not, eqNil] at hg; omega) )
    refine aOps_store (by rfl) (by rfl) (by repeat (first | exact AHeap.set_same _ _ _ | assumption | refine (AHeap.set_ne _ _ (by first | assumption | exact Ne.symm (by assumption))).trans ?_)) sz35 (by rfl) (by rfl) (by first | exact Nat.le_refl _ | decide | (simp; done) | (simp; omega)) (Nat.zero_le _) (by rfl) ?_
    simp only [AVal.cells]
    simp (decide := true) only [aOps_nil, ev, absV, absS, putD, Slots.put, Slots.get, Slots.keep, if_true, if_false, true_and, ↓ap_assign, pop_assign, setAt, List.set_cons_zero, List.set_cons_succ, Nat.zero_add, Nat.reduceAdd]
    repeat (with_reducible refine And.intro ?_ ?_; · first | trivial | omega | (intro hg; simp only [Bool.and_eq_true, Bool.or_eq_true, Bool.not_eq_true', Bool.and_eq_false_iff, Bool.or_eq_false_iff, Bool.not_eq_false', decide_eq_true_eq, decide_eq_false_iff_not, eqNil] at hg; omega) )
    apply hK; clear hK K
    refine awp_ret ?_
    try simp only [thenA_ret]
    refine retA_ret h (by repeat (first | exact Sub.refl _ | assumption | refine Sub.trans_set ?_ (by assumption))) (?_) ?_
    · simp (decide := true) only [resPre, resV_tmp, resV_cell, Slots.get, if_true, if_false, and_true, resV_tmp, resV_cell, pLoad_agg ag35 sz35, rd_set, cellsAt, List.getD_cons_zero, List.getD_cons_succ, Nat.zero_add, Nat.reduceAdd, lv_bool, lv_int, lv_str, allLive, Bool.and_true, cellsAt, List.getD_cons_zero, List.getD_cons_succ, Nat.zero_add, Nat.reduceAdd, lv_bool, lv_int, lv_str, allLive, Bool.and_true]
    
    simp (decide := true) only [Slots.get, if_true, if_false, and_true, resOfG_three, resV_tmp, resV_cell, pLoad_agg ag35 sz35, rd_set, cellsAt, List.getD_cons_zero, List.getD_cons_succ, Nat.zero_add, Nat.reduceAdd, lv_bool, lv_int, lv_str, allLive, Bool.and_true, Bool.and_true, cellsAt, List.getD_cons_zero, List.getD_cons_succ, Nat.zero_add, Nat.reduceAdd, lv_bool, lv_int, lv_str, allLive, Bool.and_true, nxA, nxR]
    have hq : foldE [peekE s i, peekE s (i + 1)] = IS ∧ wordyB (peekE s (i + 2)) = false := by
      by_cases hd : foldE [peekE s i, peekE s (i + 1)] = IS
      · rw [decide_eq_true (show foldE [peekE s i, peekE s (i + 1)] = [73, 83] from hd)] at hb1
        exact ⟨hd, by simpa using hb1⟩
      · rw [decide_eq_false (show ¬ foldE [peekE s i, peekE s (i + 1)] = [73, 83] from hd)] at hb1
        cases hb1
    unfold pictureE
    rw [if_pos ⟨rfl, hq.1, hq.2⟩]
    rfl
  · try simp only [decide_eq_true_eq, decide_eq_false_iff_not, Bool.not_eq_true', Bool.not_eq_false', Bool.and_eq_true, Bool.and_eq_false_iff, Bool.or_eq_true, Bool.or_eq_false_iff, Bool.true_eq, Bool.false_eq, reduceCtorEq] at hb1
    refine awp_skip ?_
    change Awp _ _ _ _ _ _ _
    refine Awp.keep [0, 4] ?_
    exact pictureEnd w₀ h _ ((by repeat (first | exact Sub.refl _ | assumption | refine Sub.set_both ?_ _ _ | refine Sub.trans_set ?_ (by repeat (first | assumption | refine (AHeap.set_ne _ _ (by first | assumption | exact Ne.symm (by assumption))).trans ?_))))) kx k0q0 lf s mv tv i true ((by repeat (first | exact AHeap.set_same _ _ _ | assumption | refine (AHeap.set_ne _ _ (by first | assumption | exact Ne.symm (by assumption))).trans ?_))) ((by repeat (first | exact AHeap.set_same _ _ _ | assumption | refine (AHeap.set_ne _ _ (by first | assumption | exact Ne.symm (by assumption))).trans ?_))) hk0q0 ne_0q0_x h32 hs (fun q => by rw [decide_eq_true (show foldE [peekE s i, peekE s (i + 1)] = [73, 83] from q.2.1), q.2.2] at hb1; cases hb1)
theorem c_picture (w₀ : World) (h : AHeap) (kx : Nat) (lf : Bool) (s : Str) (mv tv : AVal) (i : Nat) (is : Bool) (eb_x : h kx = some ⟨[.bool lf, .str s, mv, .int .i64 i, tv], 0⟩) (h32 : peekE s i ≠ 32) (hs : s.length ≤ 1099511627776) :
    ACall Tryd.prog w₀ 66 [.ptr (.own kx) 0, .bool is] h (fun r h' => r = nxR (pictureE s i is) ∧ h' = h) := by
  cases is with
  | true => exact c_pictureT w₀ h kx lf s mv tv i eb_x h32 hs
  | false => exact c_pictureF w₀ h kx lf s mv tv i eb_x h32 hs
set_option maxHeartbeats 400000 in
theorem c_number (w₀ : World) (h : AHeap) (kx : Nat) (lf : Bool) (s : Str) (mv tv : AVal) (i : Nat) (eb_x : h kx = some ⟨[.bool lf, .str s, mv, .int .i64 i, tv], 0⟩) (hi : i < s.length) (hs : s.length ≤ 1099511627776) :
    ACall Tryd.prog w₀ 69 [.ptr (.own kx) 0] h (fun r h' => r = nxR (numberE s i) ∧ h' = h) := by
  have hs_h : Sub h h := Sub.refl h
  have hsg := Bool.toNat_le (signedE s i)
  have hn1 := n1_le hi
  have hnl := numLen_le hi
  obtain ⟨b0, h0⟩ : ∃ b, b = peekE s i := ⟨_, rfl⟩
  obtain ⟨bm, hm⟩ : ∃ b, b = peekE s ((i : Int) + -1) := ⟨_, rfl⟩
  refine acall_intro (n := 89) (rs := [.cell 2 35, .tmp 3, .tmp 4]) Tryd.func69 rfl rfl rfl rfl (Nat.le_of_ble_eq_true rfl) ?_
  simp only [initSlots]
  -- region 0  tokens.go:125
  refine awp_rseq [0, 2] (by rfl) fun K hK => ?_
  refine aOps_alloc ze35 (cs := [.int .u8 0, .str [], .int .i64 0, .int .i64 0, .bool false]) (by rfl) fun k0q0 hk0q0 => ?_
  have hn_0q0 : h k0q0 = none := by first | assumption | (simp only [AHeap.set_none] at hk0q0; simp only [hk0q0])
  have hf_0q0 : h k0q0 = none := Sub.none hs_h hn_0q0
  have ne_0q0_x : k0q0 ≠ kx := AHeap.ne_some hn_0q0 eb_x
  simp (decide := true) only [aOps_nil, ev, absV, absS, putD, Slots.put, Slots.keep, if_true, if_false, true_and, ↓ap_assign, pop_assign]
  repeat (with_reducible refine And.intro ?_ ?_; · first | trivial | omega | (intro hg; simp only [Bool.and_eq_true, Bool.or_eq_true, Bool.not_eq_true', Bool.and_eq_false_iff, Bool.or_eq_false_iff, Bool.not_eq_false', decide_eq_true_eq, decide_eq_false_iff_not, eqNil] at hg; omega) )
  apply hK; clear hK K
  -- region 1  tokens.go:126
  refine awp_rseq [0, 2, 5] (by rfl) fun K hK => ?_
  simp (decide := true) only [aOps_nil, ev, absV, absS, putD, Slots.put, Slots.keep, if_true, if_false, true_and, ↓ap_assign, pop_assign]
  repeat (with_reducible refine And.intro ?_ ?_; · first | trivial | omega | (intro hg; simp only [Bool.and_eq_true, Bool.or_eq_true, Bool.not_eq_true', Bool.and_eq_false_iff, Bool.or_eq_false_iff, Bool.not_eq_false', decide_eq_true_eq, decide_eq_false_iff_not, eqNil] at hg; omega) )
  apply hK; clear hK K
  -- region 2  tokens.go:127
  refine awp_rseq [0, 2, 5, 6] (by rfl) fun K hK => ?_
  simp (decide := true) only [ev, putD, Slots.put, Slots.get, if_true, if_false, true_and, ↓ap_move, pop_move]
  repeat (with_reducible refine And.intro ?_ ?_; · first | trivial | omega | (intro hg; simp only [Bool.and_eq_true, Bool.or_eq_true, Bool.not_eq_true', Bool.and_eq_false_iff, Bool.or_eq_false_iff, Bool.not_eq_false', decide_eq_true_eq, decide_eq_false_iff_not, eqNil] at hg; omega) )
  refine aOps_callV (V := .int .u8 b0.toNat) (by rfl) (by rfl) (by rw [h0]; exact c_peek0 w₀ _ kx lf s mv tv i ((by repeat (first | exact AHeap.set_same _ _ _ | assumption | refine (AHeap.set_ne _ _ (by first | assumption | exact Ne.symm (by assumption))).trans ?_))) (by omega)) ?_
  simp (decide := true) only [ev, absV, absS, putD, Slots.put, Slots.get, if_true, if_false, true_and, ↓ap_binOp, pop_binOp, isNilC_int, cond_false, pBinX_int, pI_eql, ↓ap_move, pop_move, ↓ag_move, agP, agQ_some, nthDst, gKnown_bool, guardB_bool_false, implies_true]
  repeat (with_reducible refine And.intro ?_ ?_; · first | trivial | omega | (intro hg; simp only [Bool.and_eq_true, Bool.or_eq_true, Bool.not_eq_true', Bool.and_eq_false_iff, Bool.or_eq_false_iff, Bool.not_eq_false', decide_eq_true_eq, decide_eq_false_iff_not, eqNil] at hg; omega) )
  first
  | (refine aOps_yes (by rfl) ?_; refine aOps_callV (V := .int .u8 b0.toNat) (by rfl) (by rfl) (by rw [h0]; exact c_peek0 w₀ _ kx lf s mv tv i ((by repeat (first | exact AHeap.set_same _ _ _ | assumption | refine (AHeap.set_ne _ _ (by first | assumption | exact Ne.symm (by assumption))).trans ?_))) (by omega)) ?_)
  | (refine aOps_no (by rfl) (by rfl) ?_)
  | (refine aOps_gcall (V := .int .u8 b0.toNat) (f := _) (cap := _) (xs := _) (by first | rfl | (simp (decide := true) only [gv, nthDst, Slots.get, if_true, if_false, gKnown_cond, gKnown_bool])) (fun hg => ⟨rfl, ?_⟩) (fun hg => by rw [h0]; exact c_peek0 w₀ _ kx lf s mv tv i ((by repeat (first | exact AHeap.set_same _ _ _ | assumption | refine (AHeap.set_ne _ _ (by first | assumption | exact Ne.symm (by assumption))).trans ?_))) (by omega)) ?_; · (simp (decide := true) only [gv, nthDst, Slots.get, if_true, if_false, guardB_bool_false] at hg; simp (decide := true) only [evs, ev, Slots.get, if_true, if_false, hg, condV_true, List.append_nil, List.map_cons, List.map_nil, absV, absS] <;> try rfl))
  simp (decide := true) only [ev, absV, absS, putD, Slots.put, Slots.get, if_true, if_false, true_and, gv, nthDst, guardB_bool_true, guardB_bool_false, ↓ag_binOp, pop_binOp, agP, agQ_some, gKnown_bool, implies_true, isNilC_int, cond_false, cv_binl, cp_binl, pBinX_int, pI_eql, ↓ap_pick, pop_pick, pPick_bool, pickV_cond_r, pickV_or, ↓ap_move, pop_move, ↓ag_move]
  repeat (with_reducible refine And.intro ?_ ?_; · first | trivial | omega | (intro hg; simp only [Bool.and_eq_true, Bool.or_eq_true, Bool.not_eq_true', Bool.and_eq_false_iff, Bool.or_eq_false_iff, Bool.not_eq_false', decide_eq_true_eq, decide_eq_false_iff_not, eqNil] at hg; omega) )
  first
  | (refine aOps_yes (by rfl) ?_; refine aOps_callV (V := .int .u8 bm.toNat) (by rfl) (by rfl) (by rw [hm]; exact c_peek w₀ _ kx lf s mv tv i (-1) ((by repeat (first | exact AHeap.set_same _ _ _ | assumption | refine (AHeap.set_ne _ _ (by first | assumption | exact Ne.symm (by assumption))).trans ?_))) (by omega) (by omega) (by omega)) ?_)
  | (refine aOps_no (by rfl) (by rfl) ?_)
  | (refine aOps_gcall (V := .int .u8 bm.toNat) (f := _) (cap := _) (xs := _) (by first | rfl | (simp (decide := true) only [gv, nthDst, Slots.get, if_true, if_false, gKnown_cond, gKnown_bool])) (fun hg => ⟨rfl, ?_⟩) (fun hg => by rw [hm]; exact c_peek w₀ _ kx lf s mv tv i (-1) ((by repeat (first | exact AHeap.set_same _ _ _ | assumption | refine (AHeap.set_ne _ _ (by first | assumption | exact Ne.symm (by assumption))).trans ?_))) (by omega) (by omega) (by omega)) ?_; · (simp (decide := true) only [gv, nthDst, Slots.get, if_true, if_false, guardB_bool_true] at hg; simp (decide := true) only [evs, ev, Slots.get, if_true, if_false, hg, condV_true, List.append_nil, List.map_cons, List.map_nil, absV, absS] <;> try rfl))
  simp (decide := true) only [ev, absV, absS, putD, Slots.put, Slots.get, if_true, if_false, true_and, gv, nthDst, guardB_bool_true, guardB_bool_false, guardB_cond, ↓ag_binOp, pop_binOp, agP, agQ_some, gKnown_bool, gKnown_cond, cv_cv, implies_true, isNilC_int, cond_false, cv_binl, cp_binl, pBinX_int, pI_eql, ↓ag_move, pop_move]
  repeat (with_reducible refine And.intro ?_ ?_; · first | trivial | omega | (intro hg; simp only [Bool.and_eq_true, Bool.or_eq_true, Bool.not_eq_true', Bool.and_eq_false_iff, Bool.or_eq_false_iff, Bool.not_eq_false', decide_eq_true_eq, decide_eq_false_iff_not, eqNil] at hg; omega) )
  first
  | (refine aOps_yes (by rfl) ?_; refine aOps_callV (V := .int .u8 bm.toNat) (by rfl) (by rfl) (by rw [hm]; exact c_peek w₀ _ kx lf s mv tv i (-1) ((by repeat (first | exact AHeap.set_same _ _ _ | assumption | refine (AHeap.set_ne _ _ (by first | assumption | exact Ne.symm (by assumption))).trans ?_))) (by omega) (by omega) (by omega)) ?_)
  | (refine aOps_no (by rfl) (by rfl) ?_)
  | (refine aOps_gcall (V := .int .u8 bm.toNat) (f := _) (cap := _) (xs := _) (by first | rfl | (simp (decide := true) only [gv, nthDst, Slots.get, if_true, if_false, gKnown_cond])) (fun hg => ⟨rfl, ?_⟩) (fun hg => by rw [hm]; exact c_peek w₀ _ kx lf s mv tv i (-1) ((by repeat (first | exact AHeap.set_same _ _ _ | assumption | refine (AHeap.set_ne _ _ (by first | assumption | exact Ne.symm (by assumption))).trans ?_))) (by omega) (by omega) (by omega)) ?_; · (simp (decide := true) only [gv, nthDst, Slots.get, if_true, if_false, guardB_bool_false, guardB_cond] at hg; simp (decide := true) only [evs, ev, Slots.get, if_true, if_false, hg, condV_true, List.append_nil, List.map_cons, List.map_nil, absV, absS] <;> try rfl))
  simp (decide := true) only [aOps_nil, ev, absV, absS, putD, Slots.put, Slots.get, Slots.keep, if_true, if_false, true_and, gv, nthDst, guardB_bool_true, guardB_bool_false, guardB_cond, ↓ag_binOp, pop_binOp, agP, agQ_some, gKnown_bool, gKnown_cond, implies_true, isNilC_int, cond_false, cv_binl, cp_binl, pBinX_int, pI_eql, ↓ag_pick, pop_pick, pPick_bool, pickV_cond_l, cp_nest2, pickV_and, pickV_or, cv_pick, cp_pick, ↓ap_pick, ↓ap_assign, pop_assign]
  have hsv : ((decide ((b0.toNat : Int) = 43) || decide ((b0.toNat : Int) = 45)) && (decide ((bm.toNat : Int) = 32) || decide ((bm.toNat : Int) = 40))) = signedE s i := by
    have e43 : decide ((b0.toNat : Int) = 43) = decide (b0 = 43) := decide_eq_decide.2 (iff_of_eq (u8_eq _ 43))
    have e45 : decide ((b0.toNat : Int) = 45) = decide (b0 = 45) := decide_eq_decide.2 (iff_of_eq (u8_eq _ 45))
    have e32 : decide ((bm.toNat : Int) = 32) = decide (bm = 32) := decide_eq_decide.2 (iff_of_eq (u8_eq _ 32))
    have e40 : decide ((bm.toNat : Int) = 40) = decide (bm = 40) := decide_eq_decide.2 (iff_of_eq (u8_eq _ 40))
    rw [e43, e45, e32, e40]
    unfold signedE
    rw [h0, hm, show (i : Int) + -1 = (i : Int) - 1 by omega]
  rw [hsv]
  obtain ⟨sg, hsg'⟩ : ∃ sg, sg = signedE s i := ⟨_, rfl⟩
  rw [← hsg']
  apply hK; clear hK K
  refine awp_seq ?_
  -- region 3  tokens.go:128
  refine awp_rseq [0, 2, 5, 6, 27] (by rfl) fun K hK => ?_
  simp (decide := true) only [aOps_nil, ev, putD, Slots.put, Slots.get, Slots.keep, if_true, if_false, true_and, ↓ap_move, pop_move]
  repeat (with_reducible refine And.intro ?_ ?_; · first | trivial | omega | (intro hg; simp only [Bool.and_eq_true, Bool.or_eq_true, Bool.not_eq_true', Bool.and_eq_false_iff, Bool.or_eq_false_iff, Bool.not_eq_false', decide_eq_true_eq, decide_eq_false_iff_not, eqNil] at hg; omega) )
  apply hK; clear hK K
  refine awp_joinT [0, 2, 5, 6] (fun z : Unit => [(0, .ptr (.own kx) 0), (2, .ptr (.own k0q0) 0), (5, .int .i64 sg.toNat), (6, .bool sg)]) (fun z : Unit => h.set k0q0 ⟨[.int .u8 0, .str [], .int .i64 0, .int .i64 0, .bool false], 0⟩) (fun z : Unit => True) ?_ ?_
  · refine awp_cond (b := _) rfl (fun hb1 => ?_) (fun hb1 => ?_)
    · try simp only [decide_eq_true_eq, decide_eq_false_iff_not, Bool.not_eq_true', Bool.not_eq_false', Bool.and_eq_true, Bool.and_eq_false_iff, Bool.or_eq_true, Bool.or_eq_false_iff, Bool.true_eq, Bool.false_eq, reduceCtorEq] at hb1
      -- region 4  tokens.go:129
      refine awp_r [0, 2, 5, 6] (by rfl) ?_
      simp (decide := true) only [aOps_nil, ev, absV, absS, putD, Slots.put, Slots.get, Slots.keep, if_true, if_false, true_and, and_true, ↓ap_move, pop_move, ↓ap_binOp, pop_binOp, isNilC_int, cond_false, pBinX_int, pI_add, ↓ap_assign, pop_assign, nxA, nxR]
      try simp (disch := omega) only [wrap_i64]
      repeat (with_reducible refine And.intro ?_ ?_; · first | trivial | omega | (intro hg; simp only [Bool.and_eq_true, Bool.or_eq_true, Bool.not_eq_true', Bool.and_eq_false_iff, Bool.or_eq_false_iff, Bool.not_eq_false', decide_eq_true_eq, decide_eq_false_iff_not, eqNil] at hg; omega) )
      try simp only [thenA_normal]
      first
      | exact ⟨(), by rw [hb1]; rfl, Sub.refl _, trivial⟩
      | exact ⟨(), by rw [hb1]; rfl, Sub.refl _⟩
    · try simp only [decide_eq_true_eq, decide_eq_false_iff_not, Bool.not_eq_true', Bool.not_eq_false', Bool.and_eq_true, Bool.and_eq_false_iff, Bool.or_eq_true, Bool.or_eq_false_iff, Bool.true_eq, Bool.false_eq, reduceCtorEq] at hb1
      refine awp_skip ?_
      try simp only [thenA_normal]
      first
      | exact ⟨(), by rw [hb1]; rfl, Sub.refl _, trivial⟩
      | exact ⟨(), by rw [hb1]; rfl, Sub.refl _⟩
  · intro _ _
    rw [hsg'] at *
    have hd0 : d0E s i ≤ s.length := runE_len _ _ _
    have hq1 : ((signedE s i).toNat : Int) + d0E s i = (n1E s i : Nat) := by unfold n1E; omega
    have hnum : numberE s i = numF (wordyB (peekE s ((i : Int) + (n1E s i : Nat)))) (wordyB (peekE s ((i : Int) + (numLen s i : Nat)))) (signedE s i) (d0E s i) (numDig s i) (takeE s i 2 (numLen s i)) := rfl
    have hml : dotE s i = true → moreE s i ≤ s.length := fun _ => runE_len _ _ _
    -- region 5  tokens.go:131
    refine awp_rseq [0, 2, 5, 6, 7] (by rfl) fun K hK => ?_
    simp (decide := true) only [ev, putD, Slots.put, Slots.get, if_true, if_false, true_and, ↓ap_move, pop_move]
    repeat (with_reducible refine And.intro ?_ ?_; · first | trivial | omega | (intro hg; simp only [Bool.and_eq_true, Bool.or_eq_true, Bool.not_eq_true', Bool.and_eq_false_iff, Bool.or_eq_false_iff, Bool.not_eq_false', decide_eq_true_eq, decide_eq_false_iff_not, eqNil] at hg; omega) )
    refine aOps_callV (V := .int .i64 (d0E s i)) (by rfl) (by rfl) (c_run w₀ _ kx lf s mv tv i (signedE s i).toNat _ _ (f_digit w₀) ((by repeat (first | exact AHeap.set_same _ _ _ | assumption | refine (AHeap.set_ne _ _ (by first | assumption | exact Ne.symm (by assumption))).trans ?_))) (by omega) (by omega) hs) ?_
    simp (decide := true) only [aOps_nil, ev, putD, Slots.put, Slots.get, Slots.keep, if_true, if_false, true_and, ↓ap_assign, pop_assign]
    repeat (with_reducible refine And.intro ?_ ?_; · first | trivial | omega | (intro hg; simp only [Bool.and_eq_true, Bool.or_eq_true, Bool.not_eq_true', Bool.and_eq_false_iff, Bool.or_eq_false_iff, Bool.not_eq_false', decide_eq_true_eq, decide_eq_false_iff_not, eqNil] at hg; omega) )
    apply hK; clear hK K
    -- region 6  tokens.go:132
    refine awp_rseq [0, 2, 5, 6, 7] (by rfl) fun K hK => ?_
    simp (decide := true) only [aOps_nil, ev, putD, Slots.put, Slots.get, Slots.keep, if_true, if_false, true_and, ↓ap_move, pop_move, ↓ap_binOp, pop_binOp, isNilC_tmp, cond_false, pBinX_int, pI_add, ↓ap_assign, pop_assign]
    try simp (disch := omega) only [wrap_i64]
    rw [hq1]
    apply hK; clear hK K
    refine awp_seq ?_
    -- region 7  tokens.go:133
    refine awp_rseq [0, 2, 5, 6, 7, 43] (by rfl) fun K hK => ?_
    simp (decide := true) only [ev, absV, absS, putD, Slots.put, Slots.get, if_true, if_false, true_and, ↓ap_move, pop_move, ↓ap_binOp, pop_binOp, isNilC_int, cond_false, pBinX_int, pI_gtr, ↓ag_move, agP, agQ_some, nthDst, gKnown_bool, guardB_bool_true, implies_true]
    repeat (with_reducible refine And.intro ?_ ?_; · first | trivial | omega | (intro hg; simp only [Bool.and_eq_true, Bool.or_eq_true, Bool.not_eq_true', Bool.and_eq_false_iff, Bool.or_eq_false_iff, Bool.not_eq_false', decide_eq_true_eq, decide_eq_false_iff_not, eqNil] at hg; omega) )
    first
    | (refine aOps_yes (by rfl) ?_; refine aOps_callV (V := .int .u8 (peekE s ((i : Int) + (n1E s i : Nat))).toNat) (by rfl) (by rfl) (c_peek w₀ _ kx lf s mv tv i _ ((by repeat (first | exact AHeap.set_same _ _ _ | assumption | refine (AHeap.set_ne _ _ (by first | assumption | exact Ne.symm (by assumption))).trans ?_))) (by omega) (by omega) (by omega)) ?_)
    | (refine aOps_no (by rfl) (by rfl) ?_)
    | (refine aOps_gcall (V := .int .u8 (peekE s ((i : Int) + (n1E s i : Nat))).toNat) (f := _) (cap := _) (xs := _) (by first | rfl | (simp (decide := true) only [gv, nthDst, Slots.get, if_true, if_false, gKnown_cond, gKnown_bool])) (fun hg => ⟨rfl, ?_⟩) (fun hg => c_peek w₀ _ kx lf s mv tv i _ ((by repeat (first | exact AHeap.set_same _ _ _ | assumption | refine (AHeap.set_ne _ _ (by first | assumption | exact Ne.symm (by assumption))).trans ?_))) (by omega) (by omega) (by omega)) ?_; · (simp (decide := true) only [gv, nthDst, Slots.get, if_true, if_false, guardB_bool_true] at hg; simp (decide := true) only [evs, ev, Slots.get, if_true, if_false, hg, condV_true, List.append_nil, List.map_cons, List.map_nil] <;> try rfl))
    try simp (decide := true) only [putD, Slots.put, Slots.get, if_true, if_false, gv, nthDst, guardB_bool_true]
    first
    | (refine aOps_yes (by rfl) ?_; refine aOps_callV (V := .bool (wordyB (peekE s ((i : Int) + (n1E s i : Nat))))) (by rfl) (by rfl) (c_wordy w₀ _ _) ?_)
    | (refine aOps_no (by rfl) (by rfl) ?_)
    | (refine aOps_gcall (V := .bool (wordyB (peekE s ((i : Int) + (n1E s i : Nat))))) (f := _) (cap := _) (xs := _) (by first | rfl | (simp (decide := true) only [gv, nthDst, Slots.get, if_true, if_false, gKnown_cond, gKnown_bool])) (fun hg => ⟨rfl, ?_⟩) (fun hg => c_wordy w₀ _ _) ?_; · (simp (decide := true) only [gv, nthDst, Slots.get, if_true, if_false, guardB_bool_true] at hg; simp (decide := true) only [evs, ev, Slots.get, if_true, if_false, hg, condV_true, List.append_nil, List.map_cons, List.map_nil] <;> try rfl))
    simp (decide := true) only [aOps_nil, ev, absV, absS, putD, Slots.put, Slots.get, Slots.keep, if_true, if_false, true_and, gv, nthDst, guardB_bool_true, ↓ap_pick, pop_pick, pPick_bool, pickV_cond_l, pickV_and]
    repeat (with_reducible refine And.intro ?_ ?_; · first | trivial | omega | (intro hg; simp only [Bool.and_eq_true, Bool.or_eq_true, Bool.not_eq_true', Bool.and_eq_false_iff, Bool.or_eq_false_iff, Bool.not_eq_false', decide_eq_true_eq, decide_eq_false_iff_not, eqNil] at hg; omega) )
    apply hK; clear hK K
    refine awp_cond (b := _) rfl (fun hb2 => ?_) (fun hb2 => ?_)
    · try simp only [decide_eq_true_eq, Bool.and_eq_true] at hb2
      have hb2' : 0 < d0E s i ∧ wordyB (peekE s ((i : Int) + (n1E s i : Nat))) = true := ⟨by omega, hb2.2⟩
      refine awp_seq ?_
      -- region 8  tokens.go:134
      refine awp_rseq [2, 44] (by rfl) fun K hK => ?_
      simp (decide := true) only [aOps_nil, ev, putD, Slots.put, Slots.get, Slots.keep, if_true, if_false, true_and, ↓ap_move, pop_move]
      repeat (with_reducible refine And.intro ?_ ?_; · first | trivial | omega | (intro hg; simp only [Bool.and_eq_true, Bool.or_eq_true, Bool.not_eq_true', Bool.and_eq_false_iff, Bool.or_eq_false_iff, Bool.not_eq_false', decide_eq_true_eq, decide_eq_false_iff_not, eqNil] at hg; omega) )
      apply hK; clear hK K
      refine awp_cond (b := _) rfl (fun hb3 => ?_) (fun hb3 => ?_)
      · try simp only [decide_eq_true_eq, decide_eq_false_iff_not, Bool.not_eq_true', Bool.not_eq_false', Bool.and_eq_true, Bool.and_eq_false_iff, Bool.or_eq_true, Bool.or_eq_false_iff, Bool.true_eq, Bool.false_eq, reduceCtorEq] at hb3
        -- region 9  tokens.go:135
        refine awp_rseq [2, 3, 4] (by rfl) fun K hK => ?_
        simp (decide := true) only [ev, absV, absS, putD, Slots.put, Slots.get, if_false, true_and, ↓ap_build, ↓pop_buildL, bld35_, evP, List.map_nil]
        repeat (with_reducible refine And.intro ?_ ?_; · first | trivial | omega | (intro hg; simp only [Bool.and_eq_true, Bool.or_eq_true, Bool.not_eq_true', Bool.and_eq_false_iff, Bool.or_eq_false_iff, Bool.not_eq_false', decide_eq_true_eq, decide_eq_false_iff_not, eqNil] at hg; omega) )
        refine aOps_store (by rfl) (by rfl) (by repeat (first | exact AHeap.set_same _ _ _ | assumption | refine (AHeap.set_ne _ _ (by first | assumption | exact Ne.symm (by assumption))).trans ?_)) sz35 (by rfl) (by rfl) (by first | exact Nat.le_refl _ | decide | (simp; done) | (simp; omega)) (Nat.zero_le _) (by rfl) ?_
        simp only [AHeap.set_set, AVal.cells]
        simp (decide := true) only [aOps_nil, ev, absV, absS, putD, Slots.put, Slots.get, Slots.keep, if_true, if_false, true_and, ↓ap_assign, pop_assign, setAt, List.set_cons_zero, List.set_cons_succ, Nat.zero_add, Nat.reduceAdd]
        repeat (with_reducible refine And.intro ?_ ?_; · first | trivial | omega | (intro hg; simp only [Bool.and_eq_true, Bool.or_eq_true, Bool.not_eq_true', Bool.and_eq_false_iff, Bool.or_eq_false_iff, Bool.not_eq_false', decide_eq_true_eq, decide_eq_false_iff_not, eqNil] at hg; omega) )
        apply hK; clear hK K
        refine awp_ret ?_
        try simp only [thenA_ret]
        refine retA_ret h (by repeat (first | exact Sub.refl _ | assumption | refine Sub.trans_set ?_ (by assumption))) (?_) ?_
        · simp (decide := true) only [resPre, resV_tmp, resV_cell, Slots.get, if_true, if_false, and_true, resV_tmp, resV_cell, pLoad_agg ag35 sz35, rd_set, cellsAt, List.getD_cons_zero, List.getD_cons_succ, Nat.zero_add, Nat.reduceAdd, lv_bool, lv_int, lv_str, allLive, Bool.and_true, cellsAt, List.getD_cons_zero, List.getD_cons_succ, Nat.zero_add, Nat.reduceAdd, lv_bool, lv_int, lv_str, allLive, Bool.and_true]
        
        simp (decide := true) only [Slots.get, if_true, if_false, and_true, resOfG_three, resV_tmp, resV_cell, pLoad_agg ag35 sz35, rd_set, cellsAt, List.getD_cons_zero, List.getD_cons_succ, Nat.zero_add, Nat.reduceAdd, lv_bool, lv_int, lv_str, allLive, Bool.and_true, cellsAt, List.getD_cons_zero, List.getD_cons_succ, Nat.zero_add, Nat.reduceAdd, lv_bool, lv_int, lv_str, allLive, Bool.and_true, nxA, nxR]
        rw [hnum]
        unfold numF
        rw [if_pos hb2', if_pos hb3]
        rfl
      · try simp only [decide_eq_true_eq, decide_eq_false_iff_not, Bool.not_eq_true', Bool.not_eq_false', Bool.and_eq_true, Bool.and_eq_false_iff, Bool.or_eq_true, Bool.or_eq_false_iff, Bool.true_eq, Bool.false_eq, reduceCtorEq] at hb3
        refine awp_skip ?_
        change Awp _ _ _ _ _ _ _
        -- region 10  tokens.go:137
        refine awp_rseq [2, 3, 4] (by rfl) fun K hK => ?_
        simp (decide := true) only [ev, absV, absS, putD, Slots.put, Slots.get, if_false, true_and, ↓ap_build, ↓pop_buildL, bld35_, evP, List.map_nil]
        repeat (with_reducible refine And.intro ?_ ?_; · first | trivial | omega | (intro hg; simp only [Bool.and_eq_true, Bool.or_eq_true, Bool.not_eq_true', Bool.and_eq_false_iff, Bool.or_eq_false_iff, Bool.not_eq_false', decide_eq_true_eq, decide_eq_false_iff_not, eqNil] at hg; omega) )
        refine aOps_store (by rfl) (by rfl) (by repeat (first | exact AHeap.set_same _ _ _ | assumption | refine (AHeap.set_ne _ _ (by first | assumption | exact Ne.symm (by assumption))).trans ?_)) sz35 (by rfl) (by rfl) (by first | exact Nat.le_refl _ | decide | (simp; done) | (simp; omega)) (Nat.zero_le _) (by rfl) ?_
        simp only [AHeap.set_set, AVal.cells]
        simp (decide := true) only [aOps_nil, ev, absV, absS, putD, Slots.put, Slots.get, Slots.keep, if_true, if_false, true_and, ↓ap_assign, pop_assign, setAt, List.set_cons_zero, List.set_cons_succ, Nat.zero_add, Nat.reduceAdd]
        repeat (with_reducible refine And.intro ?_ ?_; · first | trivial | omega | (intro hg; simp only [Bool.and_eq_true, Bool.or_eq_true, Bool.not_eq_true', Bool.and_eq_false_iff, Bool.or_eq_false_iff, Bool.not_eq_false', decide_eq_true_eq, decide_eq_false_iff_not, eqNil] at hg; omega) )
        apply hK; clear hK K
        refine awp_ret ?_
        try simp only [thenA_ret]
        refine retA_ret h (by repeat (first | exact Sub.refl _ | assumption | refine Sub.trans_set ?_ (by assumption))) (?_) ?_
        · simp (decide := true) only [resPre, resV_tmp, resV_cell, Slots.get, if_true, if_false, and_true, resV_tmp, resV_cell, pLoad_agg ag35 sz35, rd_set, cellsAt, List.getD_cons_zero, List.getD_cons_succ, Nat.zero_add, Nat.reduceAdd, lv_bool, lv_int, lv_str, allLive, Bool.and_true, cellsAt, List.getD_cons_zero, List.getD_cons_succ, Nat.zero_add, Nat.reduceAdd, lv_bool, lv_int, lv_str, allLive, Bool.and_true]
        
        simp (decide := true) only [Slots.get, if_true, if_false, and_true, resOfG_three, resV_tmp, resV_cell, pLoad_agg ag35 sz35, rd_set, cellsAt, List.getD_cons_zero, List.getD_cons_succ, Nat.zero_add, Nat.reduceAdd, lv_bool, lv_int, lv_str, allLive, Bool.and_true, cellsAt, List.getD_cons_zero, List.getD_cons_succ, Nat.zero_add, Nat.reduceAdd, lv_bool, lv_int, lv_str, allLive, Bool.and_true, nxA, nxR]
        rw [hnum]
        unfold numF
        rw [if_pos hb2', if_neg (by rw [hb3]; decide)]
        rfl
    · try simp only [decide_eq_false_iff_not, Bool.and_eq_false_iff] at hb2
      have hb2' : ¬ (0 < d0E s i ∧ wordyB (peekE s ((i : Int) + (n1E s i : Nat))) = true) := fun q => hb2.elim (fun z => z (by omega)) (fun z => by rw [q.2] at z; cases z)
      refine awp_skip ?_
      change Awp _ _ _ _ _ _ _
      refine awp_seq ?_
      -- region 11  tokens.go:139
      refine awp_rseq [0, 2, 5, 7, 57] (by rfl) fun K hK => ?_
      simp (decide := true) only [ev, putD, Slots.put, Slots.get, if_true, if_false, true_and, ↓ap_move, pop_move]
      repeat (with_reducible refine And.intro ?_ ?_; · first | trivial | omega | (intro hg; simp only [Bool.and_eq_true, Bool.or_eq_true, Bool.not_eq_true', Bool.and_eq_false_iff, Bool.or_eq_false_iff, Bool.not_eq_false', decide_eq_true_eq, decide_eq_false_iff_not, eqNil] at hg; omega) )
      refine aOps_callV (V := .int .u8 (peekE s ((i : Int) + (n1E s i : Nat))).toNat) (by rfl) (by rfl) (c_peek w₀ _ kx lf s mv tv i _ ((by repeat (first | exact AHeap.set_same _ _ _ | assumption | refine (AHeap.set_ne _ _ (by first | assumption | exact Ne.symm (by assumption))).trans ?_))) (by omega) (by omega) (by omega)) ?_
      simp (decide := true) only [ev, absV, absS, putD, Slots.put, Slots.get, if_true, if_false, true_and, ↓ap_binOp, pop_binOp, isNilC_int, cond_false, pBinX_int, pI_eql, ↓ap_move, pop_move, ↓ag_move, agP, agQ_some, nthDst, gKnown_bool, guardB_bool_true, implies_true, ↓ag_binOp, cv_binl, cp_binl, pI_add]
      try simp (disch := omega) only [wrap_i64]
      repeat (with_reducible refine And.intro ?_ ?_; · first | trivial | omega | (intro hg; simp only [Bool.and_eq_true, Bool.or_eq_true, Bool.not_eq_true', Bool.and_eq_false_iff, Bool.or_eq_false_iff, Bool.not_eq_false', decide_eq_true_eq, decide_eq_false_iff_not, eqNil] at hg; omega) )
      first
      | (refine aOps_yes (by rfl) ?_; refine aOps_callV (V := .int .u8 (peekE s ((i : Int) + ((n1E s i : Nat) + 1))).toNat) (by rfl) (by rfl) (c_peek w₀ _ kx lf s mv tv i ((n1E s i : Nat) + 1) ((by repeat (first | exact AHeap.set_same _ _ _ | assumption | refine (AHeap.set_ne _ _ (by first | assumption | exact Ne.symm (by assumption))).trans ?_))) (by omega) (by omega) (by omega)) ?_)
      | (refine aOps_no (by rfl) (by rfl) ?_)
      | (refine aOps_gcall (V := .int .u8 (peekE s ((i : Int) + ((n1E s i : Nat) + 1))).toNat) (f := _) (cap := _) (xs := _) (by first | rfl | (simp (decide := true) only [gv, nthDst, Slots.get, if_true, if_false, gKnown_cond, gKnown_bool])) (fun hg => ⟨rfl, ?_⟩) (fun hg => c_peek w₀ _ kx lf s mv tv i ((n1E s i : Nat) + 1) ((by repeat (first | exact AHeap.set_same _ _ _ | assumption | refine (AHeap.set_ne _ _ (by first | assumption | exact Ne.symm (by assumption))).trans ?_))) (by omega) (by omega) (by omega)) ?_; · (simp (decide := true) only [gv, nthDst, Slots.get, if_true, if_false, guardB_bool_true] at hg; simp (decide := true) only [evs, ev, Slots.get, if_true, if_false, hg, condV_true, List.append_nil, List.map_cons, List.map_nil] <;> try rfl))
      try simp (decide := true) only [putD, Slots.put, Slots.get, if_true, if_false, gv, nthDst, guardB_bool_true]
      first
      | (refine aOps_yes (by rfl) ?_; refine aOps_callV (V := .bool (digitB (peekE s ((i : Int) + ((n1E s i : Nat) + 1))))) (by rfl) (by rfl) (c_digitT w₀ _ _) ?_)
      | (refine aOps_no (by rfl) (by rfl) ?_)
      | (refine aOps_gcall (V := .bool (digitB (peekE s ((i : Int) + ((n1E s i : Nat) + 1))))) (f := _) (cap := _) (xs := _) (by first | rfl | (simp (decide := true) only [gv, nthDst, Slots.get, if_true, if_false, gKnown_cond, gKnown_bool])) (fun hg => ⟨rfl, ?_⟩) (fun hg => c_digitT w₀ _ _) ?_; · (simp (decide := true) only [gv, nthDst, Slots.get, if_true, if_false, guardB_bool_true] at hg; simp (decide := true) only [evs, ev, Slots.get, if_true, if_false, hg, condV_true, List.append_nil, List.map_cons, List.map_nil] <;> try rfl))
      simp (decide := true) only [aOps_nil, ev, absV, absS, putD, Slots.put, Slots.get, Slots.keep, if_true, if_false, true_and, gv, nthDst, guardB_bool_true, ↓ap_pick, pop_pick, pPick_bool, pickV_cond_l, pickV_and]
      have hdv : (decide (((peekE s ((i : Int) + (n1E s i : Nat))).toNat : Int) = 46) && digitB (peekE s ((i : Int) + ((n1E s i : Nat) + 1)))) = dotE s i := by
        have e46 : decide (((peekE s ((i : Int) + (n1E s i : Nat))).toNat : Int) = 46) = decide (peekE s ((i : Int) + (n1E s i : Nat)) = 46) := decide_eq_decide.2 (iff_of_eq (u8_eq _ 46))
        rw [e46, ← Int.add_assoc]
        rfl
      rw [hdv]
      apply hK; clear hK K
      refine awp_joinT [0, 2, 5, 7] (fun z : Unit => [(0, .ptr (.own kx) 0), (2, .ptr (.own k0q0) 0), (5, .int .i64 (numLen s i)), (7, .int .i64 (numDig s i))]) (fun z : Unit => h.set k0q0 ⟨[.int .u8 0, .str [], .int .i64 0, .int .i64 0, .bool false], 0⟩) (fun z : Unit => True) ?_ ?_
      · refine awp_cond (b := _) rfl (fun hb4 => ?_) (fun hb4 => ?_)
        · try simp only [decide_eq_true_eq, decide_eq_false_iff_not, Bool.not_eq_true', Bool.not_eq_false', Bool.and_eq_true, Bool.and_eq_false_iff, Bool.or_eq_true, Bool.or_eq_false_iff, Bool.true_eq, Bool.false_eq, reduceCtorEq] at hb4
          have hmo := hml hb4
          have hld : numLen s i = n1E s i + 1 + moreE s i := by unfold numLen; rw [if_pos hb4]
          have hdd : numDig s i = d0E s i + moreE s i := by unfold numDig; rw [if_pos hb4]
          -- region 12  tokens.go:140
          refine awp_rseq [0, 2, 5, 7, 8] (by rfl) fun K hK => ?_
          simp (decide := true) only [ev, absV, absS, putD, Slots.put, Slots.get, if_true, if_false, true_and, ↓ap_move, pop_move, ↓ap_binOp, pop_binOp, isNilC_int, cond_false, pBinX_int, pI_add]
          try simp (disch := omega) only [wrap_i64]
          repeat (with_reducible refine And.intro ?_ ?_; · first | trivial | omega | (intro hg; simp only [Bool.and_eq_true, Bool.or_eq_true, Bool.not_eq_true', Bool.and_eq_false_iff, Bool.or_eq_false_iff, Bool.not_eq_false', decide_eq_true_eq, decide_eq_false_iff_not, eqNil] at hg; omega) )
          rw [show ((n1E s i : Nat) : Int) + 1 = ((n1E s i + 1 : Nat) : Int) from rfl]
          refine aOps_callV (V := .int .i64 (moreE s i)) (by rfl) (by rfl) (c_run w₀ _ kx lf s mv tv i (n1E s i + 1) _ _ (f_digit w₀) ((by repeat (first | exact AHeap.set_same _ _ _ | assumption | refine (AHeap.set_ne _ _ (by first | assumption | exact Ne.symm (by assumption))).trans ?_))) (by omega) (by omega) hs) ?_
          simp (decide := true) only [aOps_nil, ev, putD, Slots.put, Slots.get, Slots.keep, if_true, if_false, true_and, ↓ap_assign, pop_assign]
          repeat (with_reducible refine And.intro ?_ ?_; · first | trivial | omega | (intro hg; simp only [Bool.and_eq_true, Bool.or_eq_true, Bool.not_eq_true', Bool.and_eq_false_iff, Bool.or_eq_false_iff, Bool.not_eq_false', decide_eq_true_eq, decide_eq_false_iff_not, eqNil] at hg; omega) )
          apply hK; clear hK K
          -- region 13  tokens.go:141
          refine awp_rseq [0, 2, 5, 7, 8] (by rfl) fun K hK => ?_
          simp (decide := true) only [aOps_nil, ev, putD, Slots.put, Slots.get, Slots.keep, if_true, if_false, true_and, ↓ap_move, pop_move, ↓ap_binOp, pop_binOp, isNilC_tmp, cond_false, pBinX_int, pI_add, ↓ap_assign, pop_assign]
          try simp (disch := omega) only [wrap_i64]
          repeat (with_reducible refine And.intro ?_ ?_; · first | trivial | omega | (intro hg; simp only [Bool.and_eq_true, Bool.or_eq_true, Bool.not_eq_true', Bool.and_eq_false_iff, Bool.or_eq_false_iff, Bool.not_eq_false', decide_eq_true_eq, decide_eq_false_iff_not, eqNil] at hg; omega) )
          apply hK; clear hK K
          -- region 14  tokens.go:142
          refine awp_r [0, 2, 5, 7] (by rfl) ?_
          simp (decide := true) only [aOps_nil, ev, absV, absS, putD, Slots.put, Slots.get, Slots.keep, if_true, if_false, true_and, and_true, ↓ap_move, pop_move, ↓ap_binOp, pop_binOp, isNilC_tmp, cond_false, pBinX_int, pI_add, ↓ap_assign, pop_assign, nxA, nxR]
          try simp (disch := omega) only [wrap_i64]
          repeat (with_reducible refine And.intro ?_ ?_; · first | trivial | omega | (intro hg; simp only [Bool.and_eq_true, Bool.or_eq_true, Bool.not_eq_true', Bool.and_eq_false_iff, Bool.or_eq_false_iff, Bool.not_eq_false', decide_eq_true_eq, decide_eq_false_iff_not, eqNil] at hg; omega) )
          try simp only [thenA_normal]
          first
          | exact ⟨(), by rw [hld, hdd, show ((n1E s i : Nat) : Int) + (1 + (moreE s i : Nat)) = ((n1E s i + 1 + moreE s i : Nat) : Int) by omega]; rfl, Sub.refl _, trivial⟩
          | exact ⟨(), by rw [hld, hdd]; rfl, Sub.refl _, trivial⟩
          | exact ⟨(), by rw [hld, hdd, show ((n1E s i : Nat) : Int) + (1 + (moreE s i : Nat)) = ((n1E s i + 1 + moreE s i : Nat) : Int) by omega]; rfl, Sub.refl _⟩
          | exact ⟨(), by rw [hld, hdd]; rfl, Sub.refl _⟩
        · try simp only [decide_eq_true_eq, decide_eq_false_iff_not, Bool.not_eq_true', Bool.not_eq_false', Bool.and_eq_true, Bool.and_eq_false_iff, Bool.or_eq_true, Bool.or_eq_false_iff, Bool.true_eq, Bool.false_eq, reduceCtorEq] at hb4
          have hld : numLen s i = n1E s i := by unfold numLen; rw [if_neg (by rw [hb4]; decide)]
          have hdd : numDig s i = d0E s i := by unfold numDig; rw [if_neg (by rw [hb4]; decide)]
          refine awp_skip ?_
          try simp only [thenA_normal]
          first
          | exact ⟨(), by rw [hld, hdd, show ((n1E s i : Nat) : Int) + (1 + (moreE s i : Nat)) = ((n1E s i + 1 + moreE s i : Nat) : Int) by omega]; rfl, Sub.refl _, trivial⟩
          | exact ⟨(), by rw [hld, hdd]; rfl, Sub.refl _, trivial⟩
          | exact ⟨(), by rw [hld, hdd, show ((n1E s i : Nat) : Int) + (1 + (moreE s i : Nat)) = ((n1E s i + 1 + moreE s i : Nat) : Int) by omega]; rfl, Sub.refl _⟩
          | exact ⟨(), by rw [hld, hdd]; rfl, Sub.refl _⟩
      · intro _ _
        refine awp_seq ?_
        refine awp_block ?_
        -- region 15  tokens.go:145
        refine awp_rseq [0, 2, 5, 7, 69] (by rfl) fun K hK => ?_
        simp (decide := true) only [aOps_nil, ev, absV, absS, putD, Slots.put, Slots.get, Slots.keep, if_true, if_false, true_and, ↓ap_move, pop_move, ↓ap_binOp, pop_binOp, isNilC_int, cond_false, pBinX_int, pI_eql, ↓ap_assign, pop_assign]
        repeat (with_reducible refine And.intro ?_ ?_; · first | trivial | omega | (intro hg; simp only [Bool.and_eq_true, Bool.or_eq_true, Bool.not_eq_true', Bool.and_eq_false_iff, Bool.or_eq_false_iff, Bool.not_eq_false', decide_eq_true_eq, decide_eq_false_iff_not, eqNil] at hg; omega) )
        apply hK; clear hK K
        refine awp_cond (b := _) rfl (fun hb5 => ?_) (fun hb5 => ?_)
        · try simp only [decide_eq_true_eq] at hb5
          -- region 16  tokens.go:146
          refine awp_rseq [2, 3, 4] (by rfl) fun K hK => ?_
          simp (decide := true) only [ev, absV, absS, putD, Slots.put, Slots.get, if_false, true_and, ↓ap_build, ↓pop_buildL, bld35_, evP, List.map_nil]
          repeat (with_reducible refine And.intro ?_ ?_; · first | trivial | omega | (intro hg; simp only [Bool.and_eq_true, Bool.or_eq_true, Bool.not_eq_true', Bool.and_eq_false_iff, Bool.or_eq_false_iff, Bool.not_eq_false', decide_eq_true_eq, decide_eq_false_iff_not, eqNil] at hg; omega) )
          refine aOps_store (by rfl) (by rfl) (by repeat (first | exact AHeap.set_same _ _ _ | assumption | refine (AHeap.set_ne _ _ (by first | assumption | exact Ne.symm (by assumption))).trans ?_)) sz35 (by rfl) (by rfl) (by first | exact Nat.le_refl _ | decide | (simp; done) | (simp; omega)) (Nat.zero_le _) (by rfl) ?_
          simp only [AHeap.set_set, AVal.cells]
          simp (decide := true) only [aOps_nil, ev, absV, absS, putD, Slots.put, Slots.get, Slots.keep, if_true, if_false, true_and, ↓ap_assign, pop_assign, setAt, List.set_cons_zero, List.set_cons_succ, Nat.zero_add, Nat.reduceAdd]
          repeat (with_reducible refine And.intro ?_ ?_; · first | trivial | omega | (intro hg; simp only [Bool.and_eq_true, Bool.or_eq_true, Bool.not_eq_true', Bool.and_eq_false_iff, Bool.or_eq_false_iff, Bool.not_eq_false', decide_eq_true_eq, decide_eq_false_iff_not, eqNil] at hg; omega) )
          apply hK; clear hK K
          refine awp_ret ?_
          try simp only [thenA_ret, inBlockA_ret]
          refine retA_ret h (by repeat (first | exact Sub.refl _ | assumption | refine Sub.trans_set ?_ (by assumption))) (?_) ?_
          · simp (decide := true) only [resPre, resV_tmp, resV_cell, Slots.get, if_true, if_false, and_true, resV_tmp, resV_cell, pLoad_agg ag35 sz35, rd_set, cellsAt, List.getD_cons_zero, List.getD_cons_succ, Nat.zero_add, Nat.reduceAdd, lv_bool, lv_int, lv_str, allLive, Bool.and_true, cellsAt, List.getD_cons_zero, List.getD_cons_succ, Nat.zero_add, Nat.reduceAdd, lv_bool, lv_int, lv_str, allLive, Bool.and_true]
          
          simp (decide := true) only [Slots.get, if_true, if_false, and_true, resOfG_three, resV_tmp, resV_cell, pLoad_agg ag35 sz35, rd_set, cellsAt, List.getD_cons_zero, List.getD_cons_succ, Nat.zero_add, Nat.reduceAdd, lv_bool, lv_int, lv_str, allLive, Bool.and_true, cellsAt, List.getD_cons_zero, List.getD_cons_succ, Nat.zero_add, Nat.reduceAdd, lv_bool, lv_int, lv_str, allLive, Bool.and_true, nxA, nxR]
          rw [hnum]
          unfold numF
          rw [if_neg hb2', if_pos (by omega)]
          rfl
        · try simp only [decide_eq_false_iff_not] at hb5
          have hb5' : ¬ numDig s i = 0 := by omega
          -- region 17  tokens.go:147
          refine awp_rseq [0, 2, 5, 7, 73] (by rfl) fun K hK => ?_
          simp (decide := true) only [ev, putD, Slots.put, Slots.get, if_true, if_false, true_and, ↓ap_move, pop_move]
          repeat (with_reducible refine And.intro ?_ ?_; · first | trivial | omega | (intro hg; simp only [Bool.and_eq_true, Bool.or_eq_true, Bool.not_eq_true', Bool.and_eq_false_iff, Bool.or_eq_false_iff, Bool.not_eq_false', decide_eq_true_eq, decide_eq_false_iff_not, eqNil] at hg; omega) )
          refine aOps_callV (V := .int .u8 (peekE s ((i : Int) + (numLen s i : Nat))).toNat) (by rfl) (by rfl) (c_peek w₀ _ kx lf s mv tv i _ ((by repeat (first | exact AHeap.set_same _ _ _ | assumption | refine (AHeap.set_ne _ _ (by first | assumption | exact Ne.symm (by assumption))).trans ?_))) (by omega) (by omega) (by omega)) ?_
          refine aOps_callV (V := .bool (wordyB (peekE s ((i : Int) + (numLen s i : Nat))))) (by rfl) (by rfl) (c_wordy w₀ _ _) ?_
          simp (decide := true) only [aOps_nil, ev, putD, Slots.put, Slots.get, Slots.keep, if_true, if_false, true_and, ↓ap_assign, pop_assign]
          repeat (with_reducible refine And.intro ?_ ?_; · first | trivial | omega | (intro hg; simp only [Bool.and_eq_true, Bool.or_eq_true, Bool.not_eq_true', Bool.and_eq_false_iff, Bool.or_eq_false_iff, Bool.not_eq_false', decide_eq_true_eq, decide_eq_false_iff_not, eqNil] at hg; omega) )
          apply hK; clear hK K
          refine awp_cond (b := _) rfl (fun hb6 => ?_) (fun hb6 => ?_)
          · try simp only [decide_eq_true_eq, decide_eq_false_iff_not, Bool.not_eq_true', Bool.not_eq_false', Bool.and_eq_true, Bool.and_eq_false_iff, Bool.or_eq_true, Bool.or_eq_false_iff, Bool.true_eq, Bool.false_eq, reduceCtorEq] at hb6
            -- region 18  tokens.go:148
            refine awp_rseq [2, 3, 4] (by rfl) fun K hK => ?_
            simp (decide := true) only [ev, absV, absS, putD, Slots.put, Slots.get, if_false, true_and, ↓ap_build, ↓pop_buildL, bld35_, evP, List.map_nil]
            repeat (with_reducible refine And.intro ?_ ?_; · first | trivial | omega | (intro hg; simp only [Bool.and_eq_true, Bool.or_eq_true, Bool.not_eq_true', Bool.and_eq_false_iff, Bool.or_eq_false_iff, Bool.not_eq_false', decide_eq_true_eq, decide_eq_false_iff_not, eqNil] at hg; omega) )
            refine aOps_store (by rfl) (by rfl) (by repeat (first | exact AHeap.set_same _ _ _ | assumption | refine (AHeap.set_ne _ _ (by first | assumption | exact Ne.symm (by assumption))).trans ?_)) sz35 (by rfl) (by rfl) (by first | exact Nat.le_refl _ | decide | (simp; done) | (simp; omega)) (Nat.zero_le _) (by rfl) ?_
            simp only [AHeap.set_set, AVal.cells]
            simp (decide := true) only [aOps_nil, ev, absV, absS, putD, Slots.put, Slots.get, Slots.keep, if_true, if_false, true_and, ↓ap_assign, pop_assign, setAt, List.set_cons_zero, List.set_cons_succ, Nat.zero_add, Nat.reduceAdd]
            repeat (with_reducible refine And.intro ?_ ?_; · first | trivial | omega | (intro hg; simp only [Bool.and_eq_true, Bool.or_eq_true, Bool.not_eq_true', Bool.and_eq_false_iff, Bool.or_eq_false_iff, Bool.not_eq_false', decide_eq_true_eq, decide_eq_false_iff_not, eqNil] at hg; omega) )
            apply hK; clear hK K
            refine awp_ret ?_
            try simp only [thenA_ret, inBlockA_ret]
            refine retA_ret h (by repeat (first | exact Sub.refl _ | assumption | refine Sub.trans_set ?_ (by assumption))) (?_) ?_
            · simp (decide := true) only [resPre, resV_tmp, resV_cell, Slots.get, if_true, if_false, and_true, resV_tmp, resV_cell, pLoad_agg ag35 sz35, rd_set, cellsAt, List.getD_cons_zero, List.getD_cons_succ, Nat.zero_add, Nat.reduceAdd, lv_bool, lv_int, lv_str, allLive, Bool.and_true, cellsAt, List.getD_cons_zero, List.getD_cons_succ, Nat.zero_add, Nat.reduceAdd, lv_bool, lv_int, lv_str, allLive, Bool.and_true]
            
            simp (decide := true) only [Slots.get, if_true, if_false, and_true, resOfG_three, resV_tmp, resV_cell, pLoad_agg ag35 sz35, rd_set, cellsAt, List.getD_cons_zero, List.getD_cons_succ, Nat.zero_add, Nat.reduceAdd, lv_bool, lv_int, lv_str, allLive, Bool.and_true, cellsAt, List.getD_cons_zero, List.getD_cons_succ, Nat.zero_add, Nat.reduceAdd, lv_bool, lv_int, lv_str, allLive, Bool.and_true, nxA, nxR]
            rw [hnum]
            unfold numF
            rw [if_neg hb2', if_neg hb5', if_pos hb6]
            rfl
          · try simp only [decide_eq_true_eq, decide_eq_false_iff_not, Bool.not_eq_true', Bool.not_eq_false', Bool.and_eq_true, Bool.and_eq_false_iff, Bool.or_eq_true, Bool.or_eq_false_iff, Bool.true_eq, Bool.false_eq, reduceCtorEq] at hb6
            have hb6' : ¬ wordyB (peekE s ((i : Int) + (numLen s i : Nat))) = true := by rw [hb6]; decide
            -- region 19  tokens.go:149
            refine awp_rseq [0, 2, 5, 79] (by rfl) fun K hK => ?_
            simp (decide := true) only [aOps_nil, ev, absV, absS, putD, Slots.put, Slots.get, Slots.keep, if_true, if_false, true_and, ↓ap_move, pop_move, ↓ap_binOp, pop_binOp, isNilC_int, cond_false, pBinX_int, pI_gtr, ↓ap_assign, pop_assign]
            repeat (with_reducible refine And.intro ?_ ?_; · first | trivial | omega | (intro hg; simp only [Bool.and_eq_true, Bool.or_eq_true, Bool.not_eq_true', Bool.and_eq_false_iff, Bool.or_eq_false_iff, Bool.not_eq_false', decide_eq_true_eq, decide_eq_false_iff_not, eqNil] at hg; omega) )
            apply hK; clear hK K
            refine awp_cond (b := _) rfl (fun hb7 => ?_) (fun hb7 => ?_)
            · try simp only [decide_eq_true_eq] at hb7
              -- region 20  tokens.go:150
              refine awp_rseq [2, 3, 4] (by rfl) fun K hK => ?_
              simp (decide := true) only [ev, absV, absS, putD, Slots.put, Slots.get, if_false, true_and, ↓ap_build, ↓pop_buildL, bld35_, evP, List.map_nil]
              repeat (with_reducible refine And.intro ?_ ?_; · first | trivial | omega | (intro hg; simp only [Bool.and_eq_true, Bool.or_eq_true, Bool.not_eq_true', Bool.and_eq_false_iff, Bool.or_eq_false_iff, Bool.not_eq_false', decide_eq_true_eq, decide_eq_false_iff_not, eqNil] at hg; omega) )
              refine aOps_store (by rfl) (by rfl) (by repeat (first | exact AHeap.set_same _ _ _ | assumption | refine (AHeap.set_ne _ _ (by first | assumption | exact Ne.symm (by assumption))).trans ?_)) sz35 (by rfl) (by rfl) (by first | exact Nat.le_refl _ | decide | (simp; done) | (simp; omega)) (Nat.zero_le _) (by rfl) ?_
              simp only [AHeap.set_set, AVal.cells]
              simp (decide := true) only [aOps_nil, ev, absV, absS, putD, Slots.put, Slots.get, Slots.keep, if_true, if_false, true_and, ↓ap_assign, pop_assign, setAt, List.set_cons_zero, List.set_cons_succ, Nat.zero_add, Nat.reduceAdd]
              repeat (with_reducible refine And.intro ?_ ?_; · first | trivial | omega | (intro hg; simp only [Bool.and_eq_true, Bool.or_eq_true, Bool.not_eq_true', Bool.and_eq_false_iff, Bool.or_eq_false_iff, Bool.not_eq_false', decide_eq_true_eq, decide_eq_false_iff_not, eqNil] at hg; omega) )
              apply hK; clear hK K
              refine awp_ret ?_
              try simp only [thenA_ret, inBlockA_ret]
              refine retA_ret h (by repeat (first | exact Sub.refl _ | assumption | refine Sub.trans_set ?_ (by assumption))) (?_) ?_
              · simp (decide := true) only [resPre, resV_tmp, resV_cell, Slots.get, if_true, if_false, and_true, resV_tmp, resV_cell, pLoad_agg ag35 sz35, rd_set, cellsAt, List.getD_cons_zero, List.getD_cons_succ, Nat.zero_add, Nat.reduceAdd, lv_bool, lv_int, lv_str, allLive, Bool.and_true, cellsAt, List.getD_cons_zero, List.getD_cons_succ, Nat.zero_add, Nat.reduceAdd, lv_bool, lv_int, lv_str, allLive, Bool.and_true]
              
              simp (decide := true) only [Slots.get, if_true, if_false, and_true, resOfG_three, resV_tmp, resV_cell, pLoad_agg ag35 sz35, rd_set, cellsAt, List.getD_cons_zero, List.getD_cons_succ, Nat.zero_add, Nat.reduceAdd, lv_bool, lv_int, lv_str, allLive, Bool.and_true, cellsAt, List.getD_cons_zero, List.getD_cons_succ, Nat.zero_add, Nat.reduceAdd, lv_bool, lv_int, lv_str, allLive, Bool.and_true, nxA, nxR]
              rw [hnum]
              unfold numF
              rw [if_neg hb2', if_neg hb5', if_neg hb6', if_pos (by omega)]
              rfl
            · try simp only [decide_eq_false_iff_not] at hb7
              refine awp_skip ?_
              change Awp _ _ _ _ _ _ _
              -- region 21  tokens.go:152
              refine awp_rseq [2, 3, 4] (by rfl) fun K hK => ?_
              simp (decide := true) only [ev, putD, Slots.put, Slots.get, if_true, if_false, true_and, ↓ap_move, pop_move]
              repeat (with_reducible refine And.intro ?_ ?_; · first | trivial | omega | (intro hg; simp only [Bool.and_eq_true, Bool.or_eq_true, Bool.not_eq_true', Bool.and_eq_false_iff, Bool.or_eq_false_iff, Bool.not_eq_false', decide_eq_true_eq, decide_eq_false_iff_not, eqNil] at hg; omega) )
              refine aOps_callV (V := nxR (takeE s i 2 (numLen s i))) (by rfl) (by rfl) (c_takeT w₀ _ kx lf s mv tv i (numLen s i) 2 ((by repeat (first | exact AHeap.set_same _ _ _ | assumption | refine (AHeap.set_ne _ _ (by first | assumption | exact Ne.symm (by assumption))).trans ?_))) hnl hs) ?_
              simp (decide := true) only [ev, putD, Slots.put, Slots.get, if_true, if_false, true_and, ↓ap_extract, pop_extract, pExt_tuple, List.length_cons, List.length_nil, List.getD_cons_zero, List.getD_cons_succ, List.getD_cons_zero, List.getD_cons_succ, Nat.zero_add, Nat.reduceAdd, nxA, nxR]
              repeat (with_reducible refine And.intro ?_ ?_; · first | trivial | omega | (intro hg; simp only [Bool.and_eq_true, Bool.or_eq_true, Bool.not_eq_true', Bool.and_eq_false_iff, Bool.or_eq_false_iff, Bool.not_eq_false', decide_eq_true_eq, decide_eq_false_iff_not, eqNil] at hg; omega) )
              refine aOps_store (by rfl) (by rfl) (by repeat (first | exact AHeap.set_same _ _ _ | assumption | refine (AHeap.set_ne _ _ (by first | assumption | exact Ne.symm (by assumption))).trans ?_)) sz35 (by rfl) (by rfl) (by first | exact Nat.le_refl _ | decide | (simp; done) | (simp; omega)) (Nat.zero_le _) (by rfl) ?_
              simp only [AHeap.set_set, AVal.cells]
              simp (decide := true) only [aOps_nil, ev, putD, Slots.put, Slots.get, Slots.keep, if_true, if_false, true_and, ↓ap_assign, pop_assign, setAt, List.set_cons_zero, List.set_cons_succ, Nat.zero_add, Nat.reduceAdd]
              repeat (with_reducible refine And.intro ?_ ?_; · first | trivial | omega | (intro hg; simp only [Bool.and_eq_true, Bool.or_eq_true, Bool.not_eq_true', Bool.and_eq_false_iff, Bool.or_eq_false_iff, Bool.not_eq_false', decide_eq_true_eq, decide_eq_false_iff_not, eqNil] at hg; omega) )
              apply hK; clear hK K
              refine awp_ret ?_
              try simp only [thenA_ret, inBlockA_ret]
              refine retA_ret h (by repeat (first | exact Sub.refl _ | assumption | refine Sub.trans_set ?_ (by assumption))) (?_) ?_
              · simp (decide := true) only [resPre, resV_tmp, resV_cell, Slots.get, if_true, if_false, and_true, resV_tmp, resV_cell, pLoad_agg ag35 sz35, rd_set, cellsAt, List.getD_cons_zero, List.getD_cons_succ, Nat.zero_add, Nat.reduceAdd, lv_bool, lv_int, lv_str, allLive, Bool.and_true, cellsAt, List.getD_cons_zero, List.getD_cons_succ, Nat.zero_add, Nat.reduceAdd, lv_bool, lv_int, lv_str, allLive, Bool.and_true]
              
              simp (decide := true) only [Slots.get, if_true, if_false, and_true, resOfG_three, resV_tmp, resV_cell, pLoad_agg ag35 sz35, rd_set, cellsAt, List.getD_cons_zero, List.getD_cons_succ, Nat.zero_add, Nat.reduceAdd, lv_bool, lv_int, lv_str, allLive, Bool.and_true, cellsAt, List.getD_cons_zero, List.getD_cons_succ, Nat.zero_add, Nat.reduceAdd, lv_bool, lv_int, lv_str, allLive, Bool.and_true, nxA, nxR]
              rw [hnum]
              unfold numF
              rw [if_neg hb2', if_neg hb5', if_neg hb6', if_neg (by omega)]
end Go.Proofs.YtmadddihphkmoaaDoor

/-
  Contracts: name, sign of the scanner.
  Conditions: none.
-/
namespace Go.Proofs.YtmadddihphkmoaaDoor
open Go.AM
open Go.Proofs
open Go.Col
open Go.Tok
open Go.RowKit (Below)
set_option maxRecDepth 100000

def digH : Str := [48, 49, 50, 51, 52, 53, 54, 55, 56, 57, 45]
theorem c_trimS (w₀ : World) (h : AHeap) (s : Str) (hs : s.length ≤ 9223372036854775807) : ACall Tryd.prog w₀ 96 [.str s, .str digH] h (fun v h' => v = .str (Lib.trimS s digH) ∧ h' = h) := by
  refine acall_of_calls (vals := [.string ⟨⟨s⟩⟩, .string ⟨⟨digH⟩⟩]) (val := .string ⟨⟨Lib.trimS s digH⟩⟩) Tryd.func96 rfl rfl (fun φ vs hv => VRs_ss hv) (fun φ => rfl) fun w => ?_
  exact Any.strings_Trim_laid Tryd.lays160 (by kernel_rfl) ⟨⟨s⟩⟩ ⟨⟨digH⟩⟩ w hs (by decide) (ascii_of_all (by decide))
theorem digH_mem (b : UInt8) : digH.contains b = (digitB b || decide (b = 45)) := by
  rw [Bool.eq_iff_iff, List.contains_iff_mem]
  unfold digH digitB
  simp only [List.mem_cons, List.not_mem_nil, or_false, Bool.or_eq_true, Bool.and_eq_true, decide_eq_true_eq]
  constructor
  · rintro (h | h | h | h | h | h | h | h | h | h | h) <;> subst h <;> decide
  · rintro (h | h)
    · have e : b = UInt8.ofNat b.toNat := (UInt8.ofNat_toNat).symm
      generalize b.toNat = n at h e
      have : n = 48 ∨ n = 49 ∨ n = 50 ∨ n = 51 ∨ n = 52 ∨ n = 53 ∨ n = 54 ∨ n = 55 ∨ n = 56 ∨ n = 57 := by omega
      rcases this with q | q | q | q | q | q | q | q | q | q <;> subst q <;> subst e <;> decide
    · subst h; decide
theorem dropW_nil {p : UInt8 → Bool} : ∀ {s : Str}, s.dropWhile p = [] ↔ s.all p = true
  | [] => by simp
  | b :: s => by
    rw [List.dropWhile_cons, List.all_cons]
    cases hp : p b with
    | true => simp only [if_true, Bool.true_and]; exact dropW_nil
    | false => simp
theorem dropW_mem {p : UInt8 → Bool} : ∀ {s : Str}, s.all p = false → (s.dropWhile p).all p = false
  | [], h => by cases h
  | b :: s, h => by
    rw [List.dropWhile_cons]
    rw [List.all_cons] at h
    cases hp : p b with
    | true =>
      rw [hp, Bool.true_and] at h
      simp only [if_true]
      exact dropW_mem h
    | false => simp [hp]
theorem trimS_nil (s : Str) : (!decide (Lib.trimS s digH = [])) = !(s.all fun b => digitB b || decide (b = 45)) := by
  rw [← decide_not]
  have hp : (fun b => digitB b || decide (b = 45)) = fun b => digH.contains b := funext fun b => (digH_mem b).symm
  rw [hp]
  unfold Lib.trimS Lib.trimLeftS Lib.trimRightS
  cases ha : s.all (fun b => digH.contains b) with
  | true =>
    have h1 : s.reverse.dropWhile (fun b => digH.contains b) = [] := dropW_nil.2 (by rw [List.all_reverse]; exact ha)
    rw [h1]
    rfl
  | false =>
    have h1 := dropW_mem (p := fun b => digH.contains b) (s := s.reverse) (by rw [List.all_reverse]; exact ha)
    have h2 : ((s.reverse.dropWhile (fun b => digH.contains b)).reverse).all (fun b => digH.contains b) = false := by rw [List.all_reverse]; exact h1
    have h3 : ¬ ((s.reverse.dropWhile (fun b => digH.contains b)).reverse).dropWhile (fun b => digH.contains b) = [] := fun e => by
      rw [dropW_nil.1 e] at h2
      cases h2
    rw [decide_eq_true h3]
    rfl
theorem c_name (w₀ : World) (h : AHeap) (kx : Nat) (lf : Bool) (s : Str) (mv tv : AVal) (i : Nat) (eb_x : h kx = some ⟨[.bool lf, .str s, mv, .int .i64 i, tv], 0⟩) (hi : i < s.length) (hw : wordyB (s.getD i 0) = true) (hs : s.length ≤ 1099511627776) :
    ACall Tryd.prog w₀ 71 [.ptr (.own kx) 0] h (fun r h' => r = nxR (nameE s i) ∧ h' = h) := by
  have hs_h : Sub h h := Sub.refl h
  have hp := runE_pos hi hw
  have hr := runE_le s i wordyB (by omega)
  obtain ⟨n, hn⟩ : ∃ n, n = runE s i wordyB := ⟨_, rfl⟩
  rw [← hn] at hp hr
  obtain ⟨t, ht⟩ : ∃ t, t = foldE ((s.drop i).take n) := ⟨_, rfl⟩
  have htl : t.length = n := by rw [ht]; unfold foldE; rw [List.length_map, List.length_take, List.length_drop]; omega
  have hnm : nameE s i = if (t.all fun b => digitB b || decide (b = 45)) = true ∨ t.getD 0 0 = 45 ∨ t.getD (n - 1) 0 = 45 then .err 4 else if 30 < n then .err 5 else ⟨1, t, n, 0⟩ := by unfold nameE; simp only; rw [← hn, ← ht]
  have h1 : ((n : Int) - 1).toNat = n - 1 := by omega
  have h0 : (0 : Int).toNat = 0 := rfl
  refine acall_intro (n := 51) (rs := [.cell 2 35, .tmp 3, .tmp 4]) Tryd.func71 rfl rfl rfl rfl (Nat.le_of_ble_eq_true rfl) ?_
  simp only [initSlots]
  -- region 0  tokens.go:156
  refine awp_rseq [0, 2] (by rfl) fun K hK => ?_
  refine aOps_alloc ze35 (cs := [.int .u8 0, .str [], .int .i64 0, .int .i64 0, .bool false]) (by rfl) fun k0q0 hk0q0 => ?_
  have hn_0q0 : h k0q0 = none := by first | assumption | (simp only [AHeap.set_none] at hk0q0; simp only [hk0q0])
  have hf_0q0 : h k0q0 = none := Sub.none hs_h hn_0q0
  have ne_0q0_x : k0q0 ≠ kx := AHeap.ne_some hn_0q0 eb_x
  simp (decide := true) only [aOps_nil, ev, absV, absS, putD, Slots.put, Slots.keep, if_true, if_false, true_and, ↓ap_assign, pop_assign]
  repeat (with_reducible refine And.intro ?_ ?_; · first | trivial | omega | (intro hg; simp only [Bool.and_eq_true, Bool.or_eq_true, Bool.not_eq_true', Bool.and_eq_false_iff, Bool.or_eq_false_iff, Bool.not_eq_false', decide_eq_true_eq, decide_eq_false_iff_not, eqNil] at hg; omega) )
  apply hK; clear hK K
  -- region 1  tokens.go:157
  refine awp_rseq [0, 2, 5] (by rfl) fun K hK => ?_
  simp (decide := true) only [ev, putD, Slots.put, Slots.get, if_true, if_false, true_and, ↓ap_move, pop_move]
  repeat (with_reducible refine And.intro ?_ ?_; · first | trivial | omega | (intro hg; simp only [Bool.and_eq_true, Bool.or_eq_true, Bool.not_eq_true', Bool.and_eq_false_iff, Bool.or_eq_false_iff, Bool.not_eq_false', decide_eq_true_eq, decide_eq_false_iff_not, eqNil] at hg; omega) )
  refine aOps_callV (V := .int .i64 n) (by rfl) (by rfl) (by rw [hn]; exact c_run0 w₀ _ kx lf s mv tv i _ _ (f_wordy w₀) ((by repeat (first | exact AHeap.set_same _ _ _ | assumption | refine (AHeap.set_ne _ _ (by first | assumption | exact Ne.symm (by assumption))).trans ?_))) (by omega) hs) ?_
  simp (decide := true) only [aOps_nil, ev, putD, Slots.put, Slots.get, Slots.keep, if_true, if_false, true_and, ↓ap_assign, pop_assign]
  repeat (with_reducible refine And.intro ?_ ?_; · first | trivial | omega | (intro hg; simp only [Bool.and_eq_true, Bool.or_eq_true, Bool.not_eq_true', Bool.and_eq_false_iff, Bool.or_eq_false_iff, Bool.not_eq_false', decide_eq_true_eq, decide_eq_false_iff_not, eqNil] at hg; omega) )
  apply hK; clear hK K
  -- region 2  tokens.go:158
  refine awp_rseq [2, 5, 6, 7] (by rfl) fun K hK => ?_
  simp (decide := true) only [ev, putD, Slots.put, Slots.get, if_true, if_false, true_and, ↓ap_move, pop_move]
  repeat (with_reducible refine And.intro ?_ ?_; · first | trivial | omega | (intro hg; simp only [Bool.and_eq_true, Bool.or_eq_true, Bool.not_eq_true', Bool.and_eq_false_iff, Bool.or_eq_false_iff, Bool.not_eq_false', decide_eq_true_eq, decide_eq_false_iff_not, eqNil] at hg; omega) )
  refine aOps_callV (V := nxR (takeE s i 1 n)) (by rfl) (by rfl) (c_takeT w₀ _ kx lf s mv tv i n 1 ((by repeat (first | exact AHeap.set_same _ _ _ | assumption | refine (AHeap.set_ne _ _ (by first | assumption | exact Ne.symm (by assumption))).trans ?_))) hr hs) ?_
  simp (decide := true) only [ev, putD, Slots.put, Slots.get, if_true, if_false, true_and, ↓ap_move, pop_move, ↓ap_extract, pop_extract, pExt_tuple, List.length_cons, List.length_nil, List.getD_cons_zero, List.getD_cons_succ, List.getD_cons_zero, List.getD_cons_succ, Nat.zero_add, Nat.reduceAdd, nxA, nxR, Tok.takeE]
  repeat (with_reducible refine And.intro ?_ ?_; · first | trivial | omega | (intro hg; simp only [Bool.and_eq_true, Bool.or_eq_true, Bool.not_eq_true', Bool.and_eq_false_iff, Bool.or_eq_false_iff, Bool.not_eq_false', decide_eq_true_eq, decide_eq_false_iff_not, eqNil] at hg; omega) )
  refine aOps_alloc ze35 (cs := [.int .u8 0, .str [], .int .i64 0, .int .i64 0, .bool false]) (by rfl) fun k2q7 hk2q7 => ?_
  have ne_2q7_0q0 : k2q7 ≠ k0q0 := by simp only [AHeap.set_none] at hk2q7; simp only [hk2q7, ne_eq, not_false_eq_true]
  have hn_2q7 : h k2q7 = none := by first | assumption | (simp only [AHeap.set_none] at hk2q7; simp only [hk2q7])
  have hf_2q7 : h k2q7 = none := Sub.none hs_h hn_2q7
  have ne_2q7_x : k2q7 ≠ kx := AHeap.ne_some hn_2q7 eb_x
  refine aOps_store (by rfl) (by rfl) (by repeat (first | exact AHeap.set_same _ _ _ | assumption | refine (AHeap.set_ne _ _ (by first | assumption | exact Ne.symm (by assumption))).trans ?_)) sz35 (by rfl) (by rfl) (by first | exact Nat.le_refl _ | decide | (simp; done) | (simp; omega)) (Nat.zero_le _) (by rfl) ?_
  simp only [AHeap.set_set, AVal.cells]
  simp (decide := true) only [aOps_nil, ev, putD, Slots.put, Slots.get, Slots.keep, if_true, if_false, true_and, ↓ap_assign, pop_assign, setAt, List.set_cons_zero, List.set_cons_succ, Nat.zero_add, Nat.reduceAdd]
  repeat (with_reducible refine And.intro ?_ ?_; · first | trivial | omega | (intro hg; simp only [Bool.and_eq_true, Bool.or_eq_true, Bool.not_eq_true', Bool.and_eq_false_iff, Bool.or_eq_false_iff, Bool.not_eq_false', decide_eq_true_eq, decide_eq_false_iff_not, eqNil] at hg; omega) )
  apply hK; clear hK K
  -- region 3  tokens.go:159
  refine awp_rseq [2, 5, 6, 7] (by rfl) fun K hK => ?_
  simp (decide := true) only [ev, putD, Slots.put, Slots.get, if_true, if_false, true_and, ↓ap_fieldAddr, pop_fieldAddr, fa35_1, ↓ap_loadL, apL_mk, pLoad_one ag9, rd_any, List.getD_cons_zero, List.getD_cons_succ, Nat.zero_add, lv_str]
  repeat (with_reducible refine And.intro ?_ ?_; · first | trivial | omega | (intro hg; simp only [Bool.and_eq_true, Bool.or_eq_true, Bool.not_eq_true', Bool.and_eq_false_iff, Bool.or_eq_false_iff, Bool.not_eq_false', decide_eq_true_eq, decide_eq_false_iff_not, eqNil] at hg; omega) )
  refine aOps_callV (V := .str t) (by rfl) (by rfl) (by rw [ht, ← fold_eq]; exact c_fold w₀ _ ((s.drop i).take n) (by rw [List.length_take]; omega)) ?_
  simp (decide := true) only [ev, putD, Slots.put, Slots.get, if_true, if_false, true_and, ↓ap_fieldAddr, pop_fieldAddr, fa35_1, Nat.zero_add]
  repeat (with_reducible refine And.intro ?_ ?_; · first | trivial | omega | (intro hg; simp only [Bool.and_eq_true, Bool.or_eq_true, Bool.not_eq_true', Bool.and_eq_false_iff, Bool.or_eq_false_iff, Bool.not_eq_false', decide_eq_true_eq, decide_eq_false_iff_not, eqNil] at hg; omega) )
  refine aOps_store (by rfl) (by rfl) (by repeat (first | exact AHeap.set_same _ _ _ | assumption | refine (AHeap.set_ne _ _ (by first | assumption | exact Ne.symm (by assumption))).trans ?_)) sz9 (by rfl) (by rfl) (by first | exact Nat.le_refl _ | decide | (simp; done) | (simp; omega)) (Nat.zero_le _) (by rfl) ?_
  simp only [AHeap.set_set, AVal.cells]
  simp (decide := true) only [aOps_nil, ev, putD, Slots.get, Slots.keep, if_true, if_false, setAt, List.set_cons_zero, List.set_cons_succ]
  repeat (with_reducible refine And.intro ?_ ?_; · first | trivial | omega | (intro hg; simp only [Bool.and_eq_true, Bool.or_eq_true, Bool.not_eq_true', Bool.and_eq_false_iff, Bool.or_eq_false_iff, Bool.not_eq_false', decide_eq_true_eq, decide_eq_false_iff_not, eqNil] at hg; omega) )
  apply hK; clear hK K
  -- region 4  tokens.go:160
  refine awp_rseq [2, 5, 6, 7, 8] (by rfl) fun K hK => ?_
  simp (decide := true) only [ev, putD, Slots.put, Slots.get, if_true, if_false, true_and, ↓ap_fieldAddr, pop_fieldAddr, fa35_1, ↓ap_loadL, apL_mk, pLoad_one ag9, rd_any, List.getD_cons_zero, List.getD_cons_succ, Nat.zero_add, lv_str]
  repeat (with_reducible refine And.intro ?_ ?_; · first | trivial | omega | (intro hg; simp only [Bool.and_eq_true, Bool.or_eq_true, Bool.not_eq_true', Bool.and_eq_false_iff, Bool.or_eq_false_iff, Bool.not_eq_false', decide_eq_true_eq, decide_eq_false_iff_not, eqNil] at hg; omega) )
  refine aOps_callV (V := .str (Lib.trimS t digH)) (by rfl) (by rfl) (c_trimS w₀ _ t (by omega)) ?_
  simp (decide := true) only [aOps_nil, ev, absV, absS, putD, Slots.put, Slots.get, Slots.keep, if_true, if_false, true_and, ↓ap_binOp, pop_binOp, isNilC_str, cond_false, pBinX_str, pS_neq, ↓ap_assign, pop_assign]
  rw [trimS_nil]
  apply hK; clear hK K
  refine awp_seq ?_
  refine awp_block ?_
  -- region 5  tokens.go:162
  refine awp_rseq [2, 5, 6, 7, 26] (by rfl) fun K hK => ?_
  simp (decide := true) only [aOps_nil, ev, absV, absS, putD, Slots.put, Slots.get, Slots.keep, if_true, if_false, true_and, ↓ap_move, pop_move, ↓ap_unOp, pop_unOp, pU_not, ↓ag_fieldAddr, pop_fieldAddr, agP, agQ_some, nthDst, gKnown_bool, guardB_bool_false, implies_true, Bool.not_not, fa35_1, ↓ag_loadL, agQL_some, agL_mk, agL_ld2, pLoad_one ag9, ↓ag_index, pop_index, pIndex_str Tryd.underlying9, cv_indexl, cv_indexr, cp_indexl, cp_indexr, ↓ag_binOp, pop_binOp, isNilC_int, cond_false, cv_binl, cp_binl, pBinX_int, pI_eql, ↓ap_pick, pop_pick, pPick_bool, pickV_cond_r, pickV_or, ↓ag_move, pI_sub, ↓ap_assign, pop_assign, rd_any, List.getD_cons_zero, List.getD_cons_succ, Nat.zero_add, lv_str, h0]
  try simp (disch := omega) only [wrap_i64]
  repeat (with_reducible refine And.intro ?_ ?_; · first | trivial | omega | (intro hg; simp only [Bool.and_eq_true, Bool.or_eq_true, Bool.not_eq_true', Bool.and_eq_false_iff, Bool.or_eq_false_iff, Bool.not_eq_false', decide_eq_true_eq, decide_eq_false_iff_not, eqNil] at hg; omega) )
  apply hK; clear hK K
  refine awp_cond (b := _) rfl (fun hb1 => ?_) (fun hb1 => ?_)
  · try simp only [decide_eq_true_eq, Bool.or_eq_true] at hb1
    have hb1' : (t.all fun b => digitB b || decide (b = 45)) = true ∨ t.getD 0 0 = 45 ∨ t.getD (n - 1) 0 = 45 := by
      rcases hb1 with (q | q) | q
      · exact .inl q
      · exact .inr (.inl ((u8_eq _ 45).mp q))
      · exact .inr (.inr (by rw [h1] at q; exact (u8_eq _ 45).mp q))
    -- region 6  tokens.go:163
    refine awp_rseq [2, 3, 4] (by rfl) fun K hK => ?_
    simp (decide := true) only [ev, absV, absS, putD, Slots.put, Slots.get, if_false, true_and, ↓ap_build, ↓pop_buildL, bld35_, evP, List.map_nil]
    repeat (with_reducible refine And.intro ?_ ?_; · first | trivial | omega | (intro hg; simp only [Bool.and_eq_true, Bool.or_eq_true, Bool.not_eq_true', Bool.and_eq_false_iff, Bool.or_eq_false_iff, Bool.not_eq_false', decide_eq_true_eq, decide_eq_false_iff_not, eqNil] at hg; omega) )
    refine aOps_store (by rfl) (by rfl) (by repeat (first | exact AHeap.set_same _ _ _ | assumption | refine (AHeap.set_ne _ _ (by first | assumption | exact Ne.symm (by assumption))).trans ?_)) sz35 (by rfl) (by rfl) (by first | exact Nat.le_refl _ | decide | (simp; done) | (simp; omega)) (Nat.zero_le _) (by rfl) ?_
    simp only [AVal.cells]
    simp (decide := true) only [aOps_nil, ev, absV, absS, putD, Slots.put, Slots.get, Slots.keep, if_true, if_false, true_and, ↓ap_assign, pop_assign, setAt, List.set_cons_zero, List.set_cons_succ, Nat.zero_add, Nat.reduceAdd]
    repeat (with_reducible refine And.intro ?_ ?_; · first | trivial | omega | (intro hg; simp only [Bool.and_eq_true, Bool.or_eq_true, Bool.not_eq_true', Bool.and_eq_false_iff, Bool.or_eq_false_iff, Bool.not_eq_false', decide_eq_true_eq, decide_eq_false_iff_not, eqNil] at hg; omega) )
    apply hK; clear hK K
    refine awp_ret ?_
    try simp only [thenA_ret, inBlockA_ret]
    refine retA_ret h (by repeat (first | exact Sub.refl _ | assumption | refine Sub.trans_set ?_ (by assumption))) (?_) ?_
    · simp (decide := true) only [resPre, resV_tmp, resV_cell, Slots.get, if_true, if_false, and_true, resV_tmp, resV_cell, pLoad_agg ag35 sz35, rd_set, cellsAt, List.getD_cons_zero, List.getD_cons_succ, Nat.zero_add, Nat.reduceAdd, lv_bool, lv_int, lv_str, allLive, Bool.and_true, cellsAt, List.getD_cons_zero, List.getD_cons_succ, Nat.zero_add, Nat.reduceAdd, lv_bool, lv_int, lv_str, allLive, Bool.and_true]
    
    simp (decide := true) only [Slots.get, if_true, if_false, and_true, resOfG_three, resV_tmp, resV_cell, pLoad_agg ag35 sz35, rd_set, cellsAt, List.getD_cons_zero, List.getD_cons_succ, Nat.zero_add, Nat.reduceAdd, lv_bool, lv_int, lv_str, allLive, Bool.and_true, cellsAt, List.getD_cons_zero, List.getD_cons_succ, Nat.zero_add, Nat.reduceAdd, lv_bool, lv_int, lv_str, allLive, Bool.and_true, nxA, nxR]
    rw [hnm, if_pos hb1']
    rfl
  · try simp only [decide_eq_false_iff_not, Bool.or_eq_false_iff] at hb1
    have hb1' : ¬ ((t.all fun b => digitB b || decide (b = 45)) = true ∨ t.getD 0 0 = 45 ∨ t.getD (n - 1) 0 = 45) := by
      rintro (q | q | q)
      · rw [q] at hb1; exact absurd hb1.1.1 (by decide)
      · exact hb1.1.2 ((u8_eq _ 45).mpr q)
      · exact hb1.2 (by rw [h1]; exact (u8_eq _ 45).mpr q)
    -- region 7  tokens.go:164
    refine awp_rseq [2, 5, 6, 7, 44] (by rfl) fun K hK => ?_
    simp (decide := true) only [aOps_nil, ev, absV, absS, putD, Slots.put, Slots.get, Slots.keep, if_true, if_false, true_and, ↓ap_move, pop_move, ↓ap_binOp, pop_binOp, isNilC_int, cond_false, pBinX_int, pI_gtr, ↓ap_assign, pop_assign]
    repeat (with_reducible refine And.intro ?_ ?_; · first | trivial | omega | (intro hg; simp only [Bool.and_eq_true, Bool.or_eq_true, Bool.not_eq_true', Bool.and_eq_false_iff, Bool.or_eq_false_iff, Bool.not_eq_false', decide_eq_true_eq, decide_eq_false_iff_not, eqNil] at hg; omega) )
    apply hK; clear hK K
    refine awp_cond (b := _) rfl (fun hb2 => ?_) (fun hb2 => ?_)
    · try simp only [decide_eq_true_eq] at hb2
      -- region 8  tokens.go:165
      refine awp_rseq [2, 3, 4] (by rfl) fun K hK => ?_
      simp (decide := true) only [ev, absV, absS, putD, Slots.put, Slots.get, if_false, true_and, ↓ap_build, ↓pop_buildL, bld35_, evP, List.map_nil]
      repeat (with_reducible refine And.intro ?_ ?_; · first | trivial | omega | (intro hg; simp only [Bool.and_eq_true, Bool.or_eq_true, Bool.not_eq_true', Bool.and_eq_false_iff, Bool.or_eq_false_iff, Bool.not_eq_false', decide_eq_true_eq, decide_eq_false_iff_not, eqNil] at hg; omega) )
      refine aOps_store (by rfl) (by rfl) (by repeat (first | exact AHeap.set_same _ _ _ | assumption | refine (AHeap.set_ne _ _ (by first | assumption | exact Ne.symm (by assumption))).trans ?_)) sz35 (by rfl) (by rfl) (by first | exact Nat.le_refl _ | decide | (simp; done) | (simp; omega)) (Nat.zero_le _) (by rfl) ?_
      simp only [AVal.cells]
      simp (decide := true) only [aOps_nil, ev, absV, absS, putD, Slots.put, Slots.get, Slots.keep, if_true, if_false, true_and, ↓ap_assign, pop_assign, setAt, List.set_cons_zero, List.set_cons_succ, Nat.zero_add, Nat.reduceAdd]
      repeat (with_reducible refine And.intro ?_ ?_; · first | trivial | omega | (intro hg; simp only [Bool.and_eq_true, Bool.or_eq_true, Bool.not_eq_true', Bool.and_eq_false_iff, Bool.or_eq_false_iff, Bool.not_eq_false', decide_eq_true_eq, decide_eq_false_iff_not, eqNil] at hg; omega) )
      apply hK; clear hK K
      refine awp_ret ?_
      try simp only [thenA_ret, inBlockA_ret]
      refine retA_ret h (by repeat (first | exact Sub.refl _ | assumption | refine Sub.trans_set ?_ (by assumption))) (?_) ?_
      · simp (decide := true) only [resPre, resV_tmp, resV_cell, Slots.get, if_true, if_false, and_true, resV_tmp, resV_cell, pLoad_agg ag35 sz35, rd_set, cellsAt, List.getD_cons_zero, List.getD_cons_succ, Nat.zero_add, Nat.reduceAdd, lv_bool, lv_int, lv_str, allLive, Bool.and_true, cellsAt, List.getD_cons_zero, List.getD_cons_succ, Nat.zero_add, Nat.reduceAdd, lv_bool, lv_int, lv_str, allLive, Bool.and_true]
      
      simp (decide := true) only [Slots.get, if_true, if_false, and_true, resOfG_three, resV_tmp, resV_cell, pLoad_agg ag35 sz35, rd_set, cellsAt, List.getD_cons_zero, List.getD_cons_succ, Nat.zero_add, Nat.reduceAdd, lv_bool, lv_int, lv_str, allLive, Bool.and_true, cellsAt, List.getD_cons_zero, List.getD_cons_succ, Nat.zero_add, Nat.reduceAdd, lv_bool, lv_int, lv_str, allLive, Bool.and_true, nxA, nxR]
      rw [hnm, if_neg hb1', if_pos (by omega)]
      rfl
    · try simp only [decide_eq_false_iff_not] at hb2
      refine awp_skip ?_
      change Awp _ _ _ _ _ _ _
      -- region 9  tokens.go:167
      refine awp_rseq [2, 3, 4] (by rfl) fun K hK => ?_
      simp (decide := true) only [ev, putD, Slots.put, Slots.get, if_true, if_false, true_and, ↓ap_loadL, apL_mk, pLoad_agg ag35 sz35, ↓ap_move, pop_move, rd_any, cellsAt, List.getD_cons_zero, List.getD_cons_succ, Nat.zero_add, Nat.reduceAdd, lv_bool, lv_int, lv_str, allLive, Bool.and_true]
      repeat (with_reducible refine And.intro ?_ ?_; · first | trivial | omega | (intro hg; simp only [Bool.and_eq_true, Bool.or_eq_true, Bool.not_eq_true', Bool.and_eq_false_iff, Bool.or_eq_false_iff, Bool.not_eq_false', decide_eq_true_eq, decide_eq_false_iff_not, eqNil] at hg; omega) )
      refine aOps_store (by rfl) (by rfl) (by repeat (first | exact AHeap.set_same _ _ _ | assumption | refine (AHeap.set_ne _ _ (by first | assumption | exact Ne.symm (by assumption))).trans ?_)) sz35 (by rfl) (by rfl) (by first | exact Nat.le_refl _ | decide | (simp; done) | (simp; omega)) (Nat.zero_le _) (by rfl) ?_
      simp only [AVal.cells]
      simp (decide := true) only [aOps_nil, ev, putD, Slots.put, Slots.get, Slots.keep, if_true, if_false, true_and, ↓ap_assign, pop_assign, setAt, List.set_cons_zero, List.set_cons_succ, Nat.zero_add, Nat.reduceAdd]
      repeat (with_reducible refine And.intro ?_ ?_; · first | trivial | omega | (intro hg; simp only [Bool.and_eq_true, Bool.or_eq_true, Bool.not_eq_true', Bool.and_eq_false_iff, Bool.or_eq_false_iff, Bool.not_eq_false', decide_eq_true_eq, decide_eq_false_iff_not, eqNil] at hg; omega) )
      apply hK; clear hK K
      refine awp_ret ?_
      try simp only [thenA_ret, inBlockA_ret]
      refine retA_ret h (by repeat (first | exact Sub.refl _ | assumption | refine Sub.trans_set ?_ (by assumption))) (?_) ?_
      · simp (decide := true) only [resPre, resV_tmp, resV_cell, Slots.get, if_true, if_false, and_true, resV_tmp, resV_cell, pLoad_agg ag35 sz35, rd_set, cellsAt, List.getD_cons_zero, List.getD_cons_succ, Nat.zero_add, Nat.reduceAdd, lv_bool, lv_int, lv_str, allLive, Bool.and_true, cellsAt, List.getD_cons_zero, List.getD_cons_succ, Nat.zero_add, Nat.reduceAdd, lv_bool, lv_int, lv_str, allLive, Bool.and_true]
      
      simp (decide := true) only [Slots.get, if_true, if_false, and_true, resOfG_three, resV_tmp, resV_cell, pLoad_agg ag35 sz35, rd_set, cellsAt, List.getD_cons_zero, List.getD_cons_succ, Nat.zero_add, Nat.reduceAdd, lv_bool, lv_int, lv_str, allLive, Bool.and_true, cellsAt, List.getD_cons_zero, List.getD_cons_succ, Nat.zero_add, Nat.reduceAdd, lv_bool, lv_int, lv_str, allLive, Bool.and_true, nxA, nxR]
      rw [hnm, if_neg hb1', if_neg (by omega)]
theorem find_at {P : Str → Bool} {j : Nat} (hj : j < signs.length) (h0 : (signs.take j).find? P = none) (hp : P (signs.getD j []) = true) : signs.find? P = some (signs.getD j []) := by
  have e : signs.drop j = signs.getD j [] :: signs.drop (j + 1) := by rw [List.drop_eq_getElem_cons hj]; simp [List.getD, hj]
  rw [← List.take_append_drop j signs, List.find?_append, h0, Option.none_or, List.take_append_drop, e, List.find?_cons, hp]
theorem find_next {P : Str → Bool} {j : Nat} (hj : j < signs.length) (h0 : (signs.take j).find? P = none) (hp : P (signs.getD j []) = false) : (signs.take (j + 1)).find? P = none := by
  have e : signs.take (j + 1) = signs.take j ++ [signs.getD j []] := by rw [List.take_add_one, List.getElem?_eq_getElem hj]; simp [List.getD, hj]
  rw [e, List.find?_append, h0, Option.none_or, List.find?_cons, hp]
  rfl
set_option maxHeartbeats 1000000 in
theorem c_sign (w₀ : World) (h : AHeap) (kx : Nat) (lf : Bool) (s : Str) (mv tv : AVal) (i : Nat) (eb_x : h kx = some ⟨[.bool lf, .str s, mv, .int .i64 i, tv], 0⟩) (hi : i < s.length) (hs : s.length ≤ 1099511627776) :
    ACall Tryd.prog w₀ 72 [.ptr (.own kx) 0] h (fun r h' => r = nxR (signE s i) ∧ h' = h) := by
  have hs_h : Sub h h := Sub.refl h
  obtain ⟨P, hP⟩ : ∃ P : Str → Bool, P = fun g => g.isPrefixOf (s.drop i) := ⟨_, rfl⟩
  have hse : signE s i = match signs.find? P with | some g => Tok.takeE s i 5 g.length | none => .err 4 := by rw [hP]; rfl
  have hdr : (s.drop ((i : Int)).toNat).take (((s.length : Nat) : Int).toNat - ((i : Int)).toNat) = s.drop i := by rw [Int.toNat_natCast, Int.toNat_natCast, List.take_of_length_le (by simp)]
  refine acall_intro (n := 34) (rs := [.cell 2 35, .tmp 3, .tmp 4]) Tryd.func72 rfl rfl rfl rfl (Nat.le_of_ble_eq_true rfl) ?_
  simp only [initSlots]
  -- region 0  tokens.go:171
  refine awp_rseq [0, 2] (by rfl) fun K hK => ?_
  refine aOps_alloc ze35 (cs := [.int .u8 0, .str [], .int .i64 0, .int .i64 0, .bool false]) (by rfl) fun k0q0 hk0q0 => ?_
  have hn_0q0 : h k0q0 = none := by first | assumption | (simp only [AHeap.set_none] at hk0q0; simp only [hk0q0])
  have hf_0q0 : h k0q0 = none := Sub.none hs_h hn_0q0
  have ne_0q0_x : k0q0 ≠ kx := AHeap.ne_some hn_0q0 eb_x
  simp (decide := true) only [aOps_nil, ev, absV, absS, putD, Slots.put, Slots.keep, if_true, if_false, true_and, ↓ap_assign, pop_assign]
  repeat (with_reducible refine And.intro ?_ ?_; · first | trivial | omega | (intro hg; simp only [Bool.and_eq_true, Bool.or_eq_true, Bool.not_eq_true', Bool.and_eq_false_iff, Bool.or_eq_false_iff, Bool.not_eq_false', decide_eq_true_eq, decide_eq_false_iff_not, eqNil] at hg; omega) )
  apply hK; clear hK K
  refine awp_seq ?_
  -- region 1  tokens.go:172
  refine awp_rseq [0, 2, 7, 8, 9] (by rfl) fun K hK => ?_
  refine aOps_buildSlice (cs := signs.map AVal.str) (by kernel_rfl) fun k1q0 hk1q0 => ?_
  have ne_1q0_0q0 : k1q0 ≠ k0q0 := by simp only [AHeap.set_none] at hk1q0; simp only [hk1q0, ne_eq, not_false_eq_true]
  have hn_1q0 : h k1q0 = none := by first | assumption | (simp only [AHeap.set_none] at hk1q0; simp only [hk1q0])
  have hf_1q0 : h k1q0 = none := Sub.none hs_h hn_1q0
  have ne_1q0_x : k1q0 ≠ kx := AHeap.ne_some hn_1q0 eb_x
  simp (decide := true) only [aOps_nil, ev, absV, absS, putD, Slots.put, Slots.get, Slots.keep, if_true, if_false, true_and, ↓ap_len, pop_len, pLen_slice Tryd.underlying31, ↓ap_move, pop_move]
  repeat (with_reducible refine And.intro ?_ ?_; · first | trivial | omega | (intro hg; simp only [Bool.and_eq_true, Bool.or_eq_true, Bool.not_eq_true', Bool.and_eq_false_iff, Bool.or_eq_false_iff, Bool.not_eq_false', decide_eq_true_eq, decide_eq_false_iff_not, eqNil] at hg; omega) )
  apply hK; clear hK K
  refine awp_block ?_
  refine awp_loopG [0, 2, 7, 8, 9] (fun j : Nat => [(0, .ptr (.own kx) 0), (2, .ptr (.own k0q0) 0), (7, .slice (.own k1q0) 0 14 (.exact 14)), (8, .int .i64 14), (9, .int .i64 j)]) (fun j : Nat => (h.set k0q0 ⟨[.int .u8 0, .str [], .int .i64 0, .int .i64 0, .bool false], 0⟩).set k1q0 ⟨signs.map AVal.str, 0⟩) (fun j : Nat => j ≤ 14 ∧ (signs.take j).find? P = none) (fun j : Nat => 14 - j) 0 (by rfl) (Sub.refl _) ⟨Nat.zero_le _, rfl⟩ ?_
  rintro j ⟨hj, hf⟩
  -- region 2  tokens.go:172
  refine awp_rseq [0, 2, 7, 8, 9, 10] (by rfl) fun K hK => ?_
  simp (decide := true) only [aOps_nil, ev, putD, Slots.put, Slots.get, Slots.keep, if_true, if_false, true_and, ↓ap_binOp, pop_binOp, isNilC_tmp, cond_false, pBinX_int, pI_lss]
  repeat (with_reducible refine And.intro ?_ ?_; · first | trivial | omega | (intro hg; simp only [Bool.and_eq_true, Bool.or_eq_true, Bool.not_eq_true', Bool.and_eq_false_iff, Bool.or_eq_false_iff, Bool.not_eq_false', decide_eq_true_eq, decide_eq_false_iff_not, eqNil] at hg; omega) )
  apply hK; clear hK K
  refine awp_seq (awp_cond (b := _) rfl (fun hb1 => ?_) (fun hb1 => ?_))
  · try simp only [decide_eq_true_eq] at hb1
    have hj' : j < 14 := by omega
    obtain ⟨g, hg⟩ : ∃ g, g = signs.getD j [] := ⟨_, rfl⟩
    have he : (signs.map AVal.str).getD (j * 1) .dead = .str g := by rw [Nat.mul_one, hg]; simp [List.getD, show j < signs.length from hj']
    refine awp_skip ?_
    change Awp _ _ _ _ _ _ _
    refine awp_seq ?_
    refine awp_block ?_
    -- region 3  tokens.go:172
    refine awp_rseq [0, 2, 6, 7, 8, 9] (by rfl) fun K hK => ?_
    simp (decide := true) only [aOps_nil, ev, putD, Slots.put, Slots.get, Slots.keep, if_true, if_false, true_and, ↓ap_indexAddrL, apL_mk, pIndexAddr_slice Tryd.underlying31 sz9, ↓ap_loadL, pLoad_one ag9, ↓ap_assign, pop_assign, rd_any, Nat.zero_add, he, Int.toNat_natCast, AVal.live]
    repeat (with_reducible refine And.intro ?_ ?_; · first | trivial | omega | (intro hg; simp only [Bool.and_eq_true, Bool.or_eq_true, Bool.not_eq_true', Bool.and_eq_false_iff, Bool.or_eq_false_iff, Bool.not_eq_false', decide_eq_true_eq, decide_eq_false_iff_not, eqNil] at hg; omega) )
    apply hK; clear hK K
    -- region 4  tokens.go:173
    refine awp_dseq_any [0, 2, 6, 7, 8, 9, 24] mixed (by kernel_rfl) (by rfl) fun K hK => ?_
    simp (decide := true) only [ev, putD, Slots.put, Slots.get, if_true, if_false, true_and, ↓vp_move, pop_move, ↓vp_nilCheck, pop_nilCheck, pNil_ptr, ↓vp_fieldAddr, pop_fieldAddr, fa71_0, fa68_1, ↓vp_load, pop_load, pLoad_one ag9, fa71_1, pLoad_one ag3, ↓vp_slice, pop_slice, evO, pSliceS_i0 Tryd.underlying9, pSliceS, bndA_none, bndA_int, rd_ne', ne_eq, not_false_eq_true, ne_0q0_x.symm, ne_1q0_x.symm, rd_own w₀ eb_x, List.getD_cons_zero, List.getD_cons_succ, Nat.zero_add, lv_int, lv_str, hdr]
    repeat (with_reducible refine And.intro ?_ ?_; · first | trivial | omega | (intro hg; simp only [Bool.and_eq_true, Bool.or_eq_true, Bool.not_eq_true', Bool.and_eq_false_iff, Bool.or_eq_false_iff, Bool.not_eq_false', decide_eq_true_eq, decide_eq_false_iff_not, eqNil] at hg; omega) )
    refine vOps_callV (V := .bool (P g)) (by rfl) (by rfl) (by rw [hP]; exact c_pref w₀ _ (s.drop i) g) ?_
    simp (decide := true) only [vOps_nil, putD, Slots.put, Slots.keep, if_true, if_false]
    repeat (with_reducible refine And.intro ?_ ?_; · first | trivial | omega | (intro hg; simp only [Bool.and_eq_true, Bool.or_eq_true, Bool.not_eq_true', Bool.and_eq_false_iff, Bool.or_eq_false_iff, Bool.not_eq_false', decide_eq_true_eq, decide_eq_false_iff_not, eqNil] at hg; omega) )
    apply hK; clear hK K
    refine awp_cond (b := _) rfl (fun hb2 => ?_) (fun hb2 => ?_)
    · try simp only [decide_eq_true_eq, decide_eq_false_iff_not, Bool.not_eq_true', Bool.not_eq_false', Bool.and_eq_true, Bool.and_eq_false_iff, Bool.or_eq_true, Bool.or_eq_false_iff, Bool.true_eq, Bool.false_eq, reduceCtorEq] at hb2
      have hse' : signE s i = Tok.takeE s i 5 g.length := by rw [hse, find_at hj' hf (by rw [← hg]; exact hb2), ← hg]
      have hgl : i + g.length ≤ s.length := by
        rw [hP] at hb2
        have := (List.isPrefixOf_iff_prefix.1 hb2).length_le
        rw [List.length_drop] at this
        omega
      -- region 5  tokens.go:174
      refine awp_rseq [2, 3, 4] (by rfl) fun K hK => ?_
      simp (decide := true) only [ev, putD, Slots.put, Slots.get, if_true, if_false, true_and, ↓ap_move, pop_move, ↓ap_len, pop_len, pLen_str Tryd.underlying9]
      repeat (with_reducible refine And.intro ?_ ?_; · first | trivial | omega | (intro hg; simp only [Bool.and_eq_true, Bool.or_eq_true, Bool.not_eq_true', Bool.and_eq_false_iff, Bool.or_eq_false_iff, Bool.not_eq_false', decide_eq_true_eq, decide_eq_false_iff_not, eqNil] at hg; omega) )
      refine aOps_callV (V := nxR (Tok.takeE s i 5 g.length)) (by rfl) (by rfl) (c_takeT w₀ _ kx lf s mv tv i g.length 5 ((by repeat (first | exact AHeap.set_same _ _ _ | assumption | refine (AHeap.set_ne _ _ (by first | assumption | exact Ne.symm (by assumption))).trans ?_))) hgl hs) ?_
      simp (decide := true) only [ev, putD, Slots.put, Slots.get, if_true, if_false, true_and, ↓ap_extract, pop_extract, pExt_tuple, List.length_cons, List.length_nil, List.getD_cons_zero, List.getD_cons_succ, List.getD_cons_zero, List.getD_cons_succ, Nat.zero_add, Nat.reduceAdd, nxA, nxR, Tok.takeE]
      repeat (with_reducible refine And.intro ?_ ?_; · first | trivial | omega | (intro hg; simp only [Bool.and_eq_true, Bool.or_eq_true, Bool.not_eq_true', Bool.and_eq_false_iff, Bool.or_eq_false_iff, Bool.not_eq_false', decide_eq_true_eq, decide_eq_false_iff_not, eqNil] at hg; omega) )
      refine aOps_store (by rfl) (by rfl) (by repeat (first | exact AHeap.set_same _ _ _ | assumption | refine (AHeap.set_ne _ _ (by first | assumption | exact Ne.symm (by assumption))).trans ?_)) sz35 (by rfl) (by rfl) (by first | exact Nat.le_refl _ | decide | (simp; done) | (simp; omega)) (Nat.zero_le _) (by rfl) ?_
      simp only [AVal.cells]
      simp (decide := true) only [aOps_nil, ev, putD, Slots.put, Slots.get, Slots.keep, if_true, if_false, true_and, ↓ap_assign, pop_assign, setAt, List.set_cons_zero, List.set_cons_succ, Nat.zero_add, Nat.reduceAdd]
      repeat (with_reducible refine And.intro ?_ ?_; · first | trivial | omega | (intro hg; simp only [Bool.and_eq_true, Bool.or_eq_true, Bool.not_eq_true', Bool.and_eq_false_iff, Bool.or_eq_false_iff, Bool.not_eq_false', decide_eq_true_eq, decide_eq_false_iff_not, eqNil] at hg; omega) )
      apply hK; clear hK K
      refine awp_ret ?_
      try simp only [thenA_ret, inBlockA_ret]
      refine retA_ret h (by repeat (first | exact Sub.refl _ | assumption | refine Sub.trans_set ?_ (by assumption))) (?_) ?_
      · simp (decide := true) only [resPre, resV_tmp, resV_cell, Slots.get, if_true, if_false, and_true, resV_tmp, resV_cell, pLoad_agg ag35 sz35, rd_set, cellsAt, List.getD_cons_zero, List.getD_cons_succ, Nat.zero_add, Nat.reduceAdd, lv_bool, lv_int, lv_str, allLive, Bool.and_true, cellsAt, List.getD_cons_zero, List.getD_cons_succ, Nat.zero_add, Nat.reduceAdd, lv_bool, lv_int, lv_str, allLive, Bool.and_true]
      
      simp (decide := true) only [Slots.get, if_true, if_false, and_true, resOfG_three, resV_tmp, resV_cell, pLoad_agg ag35 sz35, rd_set, cellsAt, List.getD_cons_zero, List.getD_cons_succ, Nat.zero_add, Nat.reduceAdd, lv_bool, lv_int, lv_str, allLive, Bool.and_true, cellsAt, List.getD_cons_zero, List.getD_cons_succ, Nat.zero_add, Nat.reduceAdd, lv_bool, lv_int, lv_str, allLive, Bool.and_true, nxA, nxR]
      rw [hse']
      rfl
    · try simp only [decide_eq_true_eq, decide_eq_false_iff_not, Bool.not_eq_true', Bool.not_eq_false', Bool.and_eq_true, Bool.and_eq_false_iff, Bool.or_eq_true, Bool.or_eq_false_iff, Bool.true_eq, Bool.false_eq, reduceCtorEq] at hb2
      refine awp_skip ?_
      change Awp _ _ _ _ _ _ _
      -- region 6  tokens.go:172
      refine awp_r [0, 2, 7, 8, 9] (by rfl) ?_
      simp (decide := true) only [aOps_nil, ev, absV, absS, putD, Slots.put, Slots.get, Slots.keep, if_true, if_false, true_and, ↓ap_binOp, pop_binOp, isNilC_int, cond_false, pBinX_int, pI_add, ↓ap_move, pop_move, nxA, nxR]
      try simp (disch := omega) only [wrap_i64]
      repeat (with_reducible refine And.intro ?_ ?_; · first | trivial | omega | (intro hg; simp only [Bool.and_eq_true, Bool.or_eq_true, Bool.not_eq_true', Bool.and_eq_false_iff, Bool.or_eq_false_iff, Bool.not_eq_false', decide_eq_true_eq, decide_eq_false_iff_not, eqNil] at hg; omega) )
      try simp only [thenA_normal]
      exact ⟨j + 1, rfl, Sub.refl _, ⟨hj', find_next hj' hf (by rw [← hg]; exact hb2)⟩, by omega⟩
  · try simp only [decide_eq_false_iff_not] at hb1
    have hj14 : j = 14 := by omega
    have hse' : signE s i = .err 4 := by
      rw [hse]
      rw [hj14] at hf
      rw [show signs.find? P = none from hf]
    refine awp_exit ?_
    change Awp _ _ _ _ _ _ _
    -- region 7  tokens.go:177
    refine awp_rseq [2, 3, 4] (by rfl) fun K hK => ?_
    simp (decide := true) only [ev, absV, absS, putD, Slots.put, Slots.get, if_false, true_and, ↓ap_build, ↓pop_buildL, bld35_, evP, List.map_nil]
    repeat (with_reducible refine And.intro ?_ ?_; · first | trivial | omega | (intro hg; simp only [Bool.and_eq_true, Bool.or_eq_true, Bool.not_eq_true', Bool.and_eq_false_iff, Bool.or_eq_false_iff, Bool.not_eq_false', decide_eq_true_eq, decide_eq_false_iff_not, eqNil] at hg; omega) )
    refine aOps_store (by rfl) (by rfl) (by repeat (first | exact AHeap.set_same _ _ _ | assumption | refine (AHeap.set_ne _ _ (by first | assumption | exact Ne.symm (by assumption))).trans ?_)) sz35 (by rfl) (by rfl) (by first | exact Nat.le_refl _ | decide | (simp; done) | (simp; omega)) (Nat.zero_le _) (by rfl) ?_
    simp only [AVal.cells]
    simp (decide := true) only [aOps_nil, ev, absV, absS, putD, Slots.put, Slots.get, Slots.keep, if_true, if_false, true_and, ↓ap_assign, pop_assign, setAt, List.set_cons_zero, List.set_cons_succ, Nat.zero_add, Nat.reduceAdd]
    repeat (with_reducible refine And.intro ?_ ?_; · first | trivial | omega | (intro hg; simp only [Bool.and_eq_true, Bool.or_eq_true, Bool.not_eq_true', Bool.and_eq_false_iff, Bool.or_eq_false_iff, Bool.not_eq_false', decide_eq_true_eq, decide_eq_false_iff_not, eqNil] at hg; omega) )
    apply hK; clear hK K
    refine awp_ret ?_
    try simp only [thenA_ret, inBlockA_ret]
    refine retA_ret h (by repeat (first | exact Sub.refl _ | assumption | refine Sub.trans_set ?_ (by assumption))) (?_) ?_
    · simp (decide := true) only [resPre, resV_tmp, resV_cell, Slots.get, if_true, if_false, and_true, resV_tmp, resV_cell, pLoad_agg ag35 sz35, rd_set, cellsAt, List.getD_cons_zero, List.getD_cons_succ, Nat.zero_add, Nat.reduceAdd, lv_bool, lv_int, lv_str, allLive, Bool.and_true, cellsAt, List.getD_cons_zero, List.getD_cons_succ, Nat.zero_add, Nat.reduceAdd, lv_bool, lv_int, lv_str, allLive, Bool.and_true]
    
    simp (decide := true) only [Slots.get, if_true, if_false, and_true, resOfG_three, resV_tmp, resV_cell, pLoad_agg ag35 sz35, rd_set, cellsAt, List.getD_cons_zero, List.getD_cons_succ, Nat.zero_add, Nat.reduceAdd, lv_bool, lv_int, lv_str, allLive, Bool.and_true, cellsAt, List.getD_cons_zero, List.getD_cons_succ, Nat.zero_add, Nat.reduceAdd, lv_bool, lv_int, lv_str, allLive, Bool.and_true, nxA, nxR]
    rw [hse']
    rfl
end Go.Proofs.YtmadddihphkmoaaDoor

/-
  Contracts of strings.Builder's methods.
  Conditions: none.
-/
namespace Go.Proofs.YtmadddihphkmoaaDoor
open Go.AM
open Go.Proofs
set_option maxRecDepth 100000

theorem cc_fresh (b : Nat) (w : World) (T : TypeId) (cells : Nat) (h0 : w.cell? ⟨b, 0, none⟩ = some (.pointer none)) (hsh : w.shape? b = some (T, cells)) (hc : 0 < cells)
    (hlies : liesAt Tryd.prog Tryd.prog.depth T (cells / Tryd.prog.cellsOf T) 0 79 1 = true) (hfz : w.frozen? ⟨b, 0, none⟩ = false) :
    Calls Tryd.prog 49 #[.pointer (some ⟨b, 0, none⟩)] w fun e w' => e = .returned (.tuple #[]) ∧ w' = w.setCell ⟨b, 0, none⟩ (.pointer (some ⟨b, 0, none⟩)) := by
  have hsz : (Tryd.prog.info? 79).map (·.size) = some 2 := by kernel_rfl
  obtain ⟨j, hj, hjs⟩ := Option.map_eq_some_iff.1 hsz
  go_enter Tryd.func49, Tryd.ntmps49
  go_wp2
  rw [Lib.run_to_unsafe w ⟨b, 0, none⟩ Tryd.underlying76 Tryd.underlying123 hj (by rw [hjs]; decide) hsh hc]
  simp only [Result.andThen]
  rw [Oper.upon_value]
  go_wp2
  rw [run_callFunc_extern Tryd.func78 (by kernel_rfl) (by kernel_rfl) (by kernel_rfl) (e := Extern.AbiNoEscape.same) (by kernel_rfl)]
  rw [Lib.run_noEscape]
  simp only [Result.andThen]
  rw [Oper.upon_value]
  go_wp2
  rw [Lib.run_from_unsafe w ⟨b, 0, none⟩ Tryd.underlying123 Tryd.underlying76 hj hsh hlies]
  simp only [Result.andThen]
  rw [Oper.upon_value]
  go_wp2
  go_end0
  exact ⟨rfl, rfl⟩

theorem cc_used (b : Nat) (w : World) (h0 : w.cell? ⟨b, 0, none⟩ = some (.pointer (some ⟨b, 0, none⟩))) :
    Calls Tryd.prog 49 #[.pointer (some ⟨b, 0, none⟩)] w fun e w' => e = .returned (.tuple #[]) ∧ w' = w := by
  have hsz : (Tryd.prog.info? 79).map (·.size) = some 2 := by kernel_rfl
  obtain ⟨j, hj, hjs⟩ := Option.map_eq_some_iff.1 hsz
  go_enter Tryd.func49, Tryd.ntmps49
  go_wp2
  rw [Lib.run_neq_ptr_same w _ Tryd.underlying76 hj]
  go_wp2
  go_end0
  exact ⟨rfl, rfl⟩

/-- A variable in which a builder stands first. -/
structure BldT (T : TypeId) (m : Nat) : Prop where
  lies : liesAt Tryd.prog Tryd.prog.depth T 1 0 79 1 = true
  cells : Tryd.prog.cellsOf T = m
  two : 2 ≤ m
theorem c_copyCheck (w₀ : World) (h : AHeap) (k : Nat) (rest : List AVal) (st : Bld) (T : TypeId) (hT : BldT T (rest.length + 2)) (ht : tyOf k = some T) (hst : st.ok 5 h k) :
    ACall Tryd.prog w₀ 49 [.ptr (.own k) 0] (bldH h k rest st) (fun v h' => v = .tuple [] ∧ h' = bldH h k rest ⟨true, st.buf⟩) := by
  intro φ vals w hr hvs
  simp only [VRs, VR] at hvs
  obtain ⟨v, vs', rfl, ⟨a, ha, rfl⟩, rfl⟩ := hvs
  obtain ⟨p, hp, hp0, ok⟩ := hr.own k _ (bldH_head hst)
  obtain ⟨t0, cs0, fr0, hcs0⟩ := hr.typ k p hp T ht
  simp only [locAddr, hp, Option.map_some, Option.some.injEq] at ha
  obtain ⟨cs, e, lo, hi, h1, h2, h3, h4, h5, h6⟩ := ok.row
  rw [hcs0] at h1
  cases h1
  obtain ⟨c0, hc0, hv0⟩ := ok.cell 0 (by simp)
  have hfz := ok.frozen 0 (Nat.zero_le _) (by simp at h3; omega)
  rw [t0] at hc0 hfz ha
  simp only [Nat.zero_add] at hc0 hfz ha
  subst ha
  have hsh : w.shape? p.blk = some (T, cs0.size) := by simp [World.shape?, hcs0]
  have hr' := hr.setCell (bldH_head hst) hp (o := 0) (x := .ptr (.own k) 0) (v := .pointer (some ⟨p.blk, 0, none⟩)) (by simp only [VR]; exact ⟨_, by simp [locAddr, hp, t0], rfl⟩) rfl (by simp) (Nat.zero_le _)
  simp only [List.set_cons_zero] at hr'
  rw [bldH_used hst, t0] at hr'
  have hun : VR φ (.tuple []) (.tuple #[]) := by simp only [VR]; exact ⟨[], rfl, by simp [VRs]⟩
  refine .inl ⟨_, Tryd.func49, rfl, rfl, ?_⟩
  simp only [List.getD_cons_zero] at hv0
  by_cases hu : st.used = true
  · have e0 : st.head k = .ptr (.own k) 0 := by rw [Bld.head, if_pos hu]
    rw [e0] at hv0
    simp only [VR, locAddr, hp, Option.map_some, Option.some.injEq] at hv0
    obtain ⟨a, ha, rfl⟩ := hv0
    subst ha
    rw [t0] at hc0
    refine (cc_used p.blk w (by simpa using hc0)).mono fun e w' ⟨e1, e2⟩ => ⟨.tuple #[], e1, φ, .tuple [], _, φ.le_refl, ?_, hun, rfl, rfl⟩
    rw [e2]
    have : st = ⟨true, st.buf⟩ := by cases st; simp at hu; simp [hu]
    rw [← this]
    exact hr
  · have e0 : st.head k = .nilPtr := by rw [Bld.head, if_neg hu]
    rw [e0] at hv0
    simp only [VR] at hv0
    subst hv0
    have hle : rest.length + 2 ≤ cs0.size := by simp at h3; omega
    refine (cc_fresh p.blk w T cs0.size hc0 hsh (by omega) (liesAt_first hT.lies (fun m u => by rw [Tryd.underlying79]; simp) (by
      rw [hT.cells]
      exact Nat.div_pos hle (by omega))) hfz).mono fun e w' ⟨e1, e2⟩ => ⟨.tuple #[], e1, φ, .tuple [], _, φ.le_refl, ?_, hun, rfl, rfl⟩
    rw [e2]
    exact hr'

set_option maxHeartbeats 1000000 in
theorem bs_some (b g cap cells : Nat) (l : List UInt8) (h0 : l ≠ []) (w : World) (hc1 : w.cell? ⟨b, 1, none⟩ = some (.slice (some ⟨g, 0, none⟩) l.length cap)) (hcap : cap ≠ 0) (hsh : w.shape? g = some (5, cells)) (hn : l.length ≤ cells)
    (h63 : l.length ≤ 9223372036854775807) (hcell : ∀ j x, l[j]? = some x → w.cell? ((⟨g, 0, none⟩ : Addr).add j) = some (.int .u8 x.toNat)) :
    Calls Tryd.prog 34 #[.pointer (some ⟨b, 0, none⟩)] w fun e w' => e = .returned (.string ⟨l.toArray⟩) ∧ w' = w.drew.freeze ⟨g, 0, none⟩ l.length := by
  have c1 : w.drew.cell? ⟨b, 1, none⟩ = some (.slice (some ⟨g, 0, none⟩) l.length cap) := hc1
  have hSD : (Builtin.unsafeSliceData_ #[77] 101 #[.slice (some ⟨g, 0, none⟩) l.length cap]).run Tryd.prog w.drew = .ok (.pointer (some ⟨g, 0, none⟩)) w.drew := Lib.run_unsafeSliceData_row _ _ _ _ _ _ hcap
  have hUS : (Builtin.unsafeString_ #[101, 3] 9 #[.pointer (some ⟨g, 0, none⟩), .int .i64 l.length]).run Tryd.prog w.drew = .ok (.string ⟨l.toArray⟩) (w.drew.freeze ⟨g, 0, none⟩ l.length) :=
    Lib.run_unsafeString_row w.drew 101 3 9 5 Tryd.underlying101 (by kernel_rfl) g cells hsh l h0 hn h63 hcell
  go_enter Tryd.func34, Tryd.ntmps34
  go_wp2
  have hmx : Tryd.prog.follows Departure.mixedOrders = true := mixed
  go_region_o
  all_goals (go_wp2; go_ret; exact ⟨rfl, rfl⟩)

set_option maxHeartbeats 1000000 in
theorem bs_nil (b : Nat) (w : World) (hc1 : w.cell? ⟨b, 1, none⟩ = some (.slice none 0 0)) :
    Calls Tryd.prog 34 #[.pointer (some ⟨b, 0, none⟩)] w fun e w' => e = .returned (.string ⟨#[]⟩) ∧ w' = w.drew := by
  have c1 : w.drew.cell? ⟨b, 1, none⟩ = some (.slice none 0 0) := hc1
  have hSD : (Builtin.unsafeSliceData_ #[77] 101 #[.slice none 0 0]).run Tryd.prog w.drew = .ok (.pointer none) w.drew := rfl
  have hUS : (Builtin.unsafeString_ #[101, 3] 9 #[.pointer none, .int .i64 0]).run Tryd.prog w.drew = .ok (.string .empty) w.drew := rfl
  go_enter Tryd.func34, Tryd.ntmps34
  go_wp2
  have hmx : Tryd.prog.follows Departure.mixedOrders = true := mixed
  go_region_o
  all_goals (go_wp2; go_ret; exact ⟨rfl, rfl⟩)

/-- What a builder holds; the builder is forgotten. -/
theorem c_bString (w₀ : World) (h : AHeap) (k : Nat) (rest : List AVal) (st : Bld) (T : TypeId) (hk : h k = none) (ht : tyOf k = some T) (hst : st.ok 5 h k) (hl : st.bytes.length ≤ 140737488355328) :
    ACall Tryd.prog w₀ 34 [.ptr (.own k) 0] (bldH h k rest st) (fun v h' => v = .str st.bytes ∧ h' = h) := by
  intro φ vals w hr hvs
  simp only [VRs, VR] at hvs
  obtain ⟨v, vs', rfl, ⟨a, ha, rfl⟩, rfl⟩ := hvs
  obtain ⟨p, hp, hp0, ok⟩ := hr.own k _ (bldH_head hst)
  obtain ⟨t0, cs0, fr0, hcs0⟩ := hr.typ k p hp T ht
  simp only [locAddr, hp, Option.map_some, Option.some.injEq] at ha
  obtain ⟨c1, hc1, hv1⟩ := ok.cell 1 (by simp)
  rw [t0] at hc1 ha
  simp only [Nat.zero_add] at hc1 ha
  subst ha
  simp only [List.getD_cons_succ, List.getD_cons_zero] at hv1
  refine .inl ⟨_, Tryd.func34, rfl, rfl, ?_⟩
  cases hb : st.buf with
  | none =>
    have e1 := Bld.slice_nil hb
    have e2 := Bld.bytes_nil hb
    rw [e1] at hv1
    simp only [VR] at hv1
    subst hv1
    rw [e2]
    refine (bs_nil p.blk w hc1).mono fun e w' ⟨e1, e2⟩ => ⟨_, e1, φ, .str [], h, φ.le_refl, ?_, rfl, rfl, rfl⟩
    rw [e2]
    exact hr.drew.forget (Sub.bldH hk hst)
  | some q =>
    obtain ⟨kb, l⟩ := q
    have e1 := Bld.slice_some hb
    have e2 := Bld.bytes_some hb
    obtain ⟨s1, s2, s3, s4⟩ := (Bld.ok_some hb).1 hst
    have hkb := bldH_buf (h := h) (k := k) (rest := rest) hb
    obtain ⟨pb, hpb, hpb0, okb⟩ := hr.own kb _ hkb
    obtain ⟨tb0, csb, frb, hcsb⟩ := hr.typ kb pb hpb _ s3
    obtain ⟨cs, e, lo, hi, h1, h2, h3, h4, h5, h6⟩ := okb.row
    rw [hcsb] at h1
    cases h1
    rw [byteCells_length] at h3
    rw [e1] at hv1
    simp only [VR] at hv1
    obtain ⟨k', p', c, a, hk', hp', rfl, hle, hca⟩ := hv1
    cases hk'
    rw [hpb] at hp'
    cases hp'
    have hln : l.length ≠ 0 := by simpa using s4
    obtain ⟨ha, hroom⟩ := hca (by omega)
    subst ha
    rw [tb0] at hc1
    rw [e2]
    rw [e2] at hl
    refine (bs_some p.blk pb.blk c csb.size l s4 w hc1 (by omega) (by simp [World.shape?, hcsb]) (by omega) (by omega) fun j x hj => ?_).mono fun e w' ⟨f1, f2⟩ => ⟨_, f1, φ, .str l, h, φ.le_refl, ?_, rfl, rfl, rfl⟩
    · have hjl : j < l.length := by
        rcases Nat.lt_or_ge j l.length with hx | hx
        · exact hx
        · rw [List.getElem?_eq_none hx] at hj; cases hj
      obtain ⟨cj, hcj, hvj⟩ := okb.cell j (by rw [byteCells_length]; exact hjl)
      rw [tb0, Nat.zero_add] at hcj
      simp only [byteCells_getD hjl] at hvj
      simp only [VR] at hvj
      subst hvj
      have ex : l.getD j 0 = x := by rw [List.getD, hj]; rfl
      rw [ex] at hcj
      have e8 : (⟨pb.blk, 0, none⟩ : Addr).add j = ⟨pb.blk, j, none⟩ := by
        unfold Addr.add
        by_cases hi : j = 0 <;> simp [hi]
      rw [e8]
      exact hcj
    · subst f2
      obtain ⟨z1, z2, z3, z4, z5, z6⟩ := freeze_facts w.drew ⟨pb.blk, 0, none⟩ l.length
      exact hr.drew.dropRow hkb hpb z1 z2 z3 z4 z5 z6 fun j c hj => ⟨Sub.bldH hk hst j c hj, fun e => by subst e; rw [s2] at hj; cases hj⟩
end Go.Proofs.YtmadddihphkmoaaDoor

/-
  Contracts of strings.Builder's writing methods.
  Conditions: none.
-/
namespace Go.Proofs.YtmadddihphkmoaaDoor
open Go.AM
open Go.Proofs
set_option maxRecDepth 100000

theorem u8_typ : (5 : Nat) < 4096 := by decide
theorem c_WriteByte (w₀ : World) (h : AHeap) (k : Nat) (rest : List AVal) (st : Bld) (T : TypeId) (hT : BldT T (rest.length + 2)) (ht : tyOf k = some T) (hk : h k = none) (hst : st.ok 5 h k) (c : UInt8) (hl : st.bytes.length + 1 ≤ 140737488355328) :
    ACall Tryd.prog w₀ 94 [.ptr (.own k) 0, .int .u8 c.toNat] (bldH h k rest st) (fun v h' => v = .nilIface ∧ ∃ st' : Bld, st'.ok 5 h k ∧ st'.bytes = st.bytes ++ [c] ∧ h' = bldH h k rest st') := by
  have hst2 : (⟨true, st.buf⟩ : Bld).ok 5 h k := hst
  have hhead := bldH_head (rest := rest) hst2
  refine acall_intro (n := 17) (rs := [.tmp 4]) Tryd.func94 rfl rfl rfl rfl (Nat.le_of_ble_eq_true rfl) ?_
  simp only [initSlots]
  -- region 0  builder.go:95
  refine awp_rseq [0, 1] (by rfl) fun K hK => ?_
  simp (decide := true) only [aOps_nil, ev, absV, absS, putD, Slots.put, Slots.keep, if_true, if_false, true_and, ↓ap_assign, pop_assign]
  repeat (with_reducible refine And.intro ?_ ?_; · first | trivial | omega | (intro hg; simp only [Bool.and_eq_true, Bool.or_eq_true, Bool.not_eq_true', Bool.and_eq_false_iff, Bool.or_eq_false_iff, Bool.not_eq_false', decide_eq_true_eq, decide_eq_false_iff_not, eqNil] at hg; omega) )
  apply hK; clear hK K
  -- region 1  builder.go:96
  refine awp_rseq [0, 1] (by rfl) fun K hK => ?_
  simp (decide := true) only [ev, putD, Slots.put, Slots.get, if_true, if_false, true_and, ↓ap_move, pop_move]
  repeat (with_reducible refine And.intro ?_ ?_; · first | trivial | omega | (intro hg; simp only [Bool.and_eq_true, Bool.or_eq_true, Bool.not_eq_true', Bool.and_eq_false_iff, Bool.or_eq_false_iff, Bool.not_eq_false', decide_eq_true_eq, decide_eq_false_iff_not, eqNil] at hg; omega) )
  refine aOps_call (by rfl) (by rfl) (c_copyCheck w₀ h k rest st T hT ht hst) fun x1q1 h1q1 hx1q1 => ?_
  obtain ⟨rfl, rfl⟩ := hx1q1
  simp (decide := true) only [aOps_nil, putD, Slots.put, Slots.keep, if_true, if_false]
  repeat (with_reducible refine And.intro ?_ ?_; · first | trivial | omega | (intro hg; simp only [Bool.and_eq_true, Bool.or_eq_true, Bool.not_eq_true', Bool.and_eq_false_iff, Bool.or_eq_false_iff, Bool.not_eq_false', decide_eq_true_eq, decide_eq_false_iff_not, eqNil] at hg; omega) )
  apply hK; clear hK K
  -- region 2  builder.go:97
  refine awp_rseq [] (by rfl) fun K hK => ?_
  simp (decide := true) only [ev, putD, Slots.put, Slots.get, if_true, if_false, true_and, ↓ap_move, pop_move, ↓ap_nilCheck, pop_nilCheck, pNil_ptr, ↓ap_fieldAddr, pop_fieldAddr, fa79_1, ↓ap_loadL, apL_mk, pLoad_one ag77, Bld.slice_live, List.getD_cons_zero, List.getD_cons_succ, rd_own w₀ hhead]
  repeat (with_reducible refine And.intro ?_ ?_; · first | trivial | omega | (intro hg; simp only [Bool.and_eq_true, Bool.or_eq_true, Bool.not_eq_true', Bool.and_eq_false_iff, Bool.or_eq_false_iff, Bool.not_eq_false', decide_eq_true_eq, decide_eq_false_iff_not, eqNil] at hg; omega) )
  refine aOps_buildSlice (cs := byteCells [c]) (by rfl) fun k6 hk6 => ?_
  refine aOps_appendBld (src := [c]) (h₀ := h) (k := k) (cs := rest) (st := ⟨true, st.buf⟩) (by rfl) (by rfl) Tryd.underlying77 Tryd.underlying77 (by intro k e; cases e) sz5 by5 ze5 u8_typ (by rfl) hk hst2 (Sub.set hk6) (by rfl) (SrcB.of (IsB.own (AHeap.set_same _ _ _) rfl (Nat.le_refl _))) (by simpa [Bld.bytes] using hl) fun st' hu' hst' hb' h' hk' hsub => ?_
  simp (decide := true) only [ev, putD, Slots.put, Slots.get, if_true, if_false, true_and, ↓ap_nilCheck, pop_nilCheck, pNil_ptr, ↓ap_fieldAddr, pop_fieldAddr, fa79_1]
  repeat (with_reducible refine And.intro ?_ ?_; · first | trivial | omega | (intro hg; simp only [Bool.and_eq_true, Bool.or_eq_true, Bool.not_eq_true', Bool.and_eq_false_iff, Bool.or_eq_false_iff, Bool.not_eq_false', decide_eq_true_eq, decide_eq_false_iff_not, eqNil] at hg; omega) )
  refine aOps_store (by rfl) (by rfl) hk' sz77 (Bld.slice_live _) (by rw [Bld.slice_cells]; rfl) (by simp) (Nat.zero_le _) (by rw [Bld.slice_cells]; simp [allScal, Bld.slice_scal]) ?_
  rw [Bld.slice_cells]
  simp only [setAt, List.set_cons_succ, List.set_cons_zero]
  have hhd : st'.head k = (⟨true, st.buf⟩ : Bld).head k := by unfold Bld.head; rw [hu']
  rw [hhd] at hsub
  simp (decide := true) only [aOps_nil, putD, Slots.keep, if_false]
  repeat (with_reducible refine And.intro ?_ ?_; · first | trivial | omega | (intro hg; simp only [Bool.and_eq_true, Bool.or_eq_true, Bool.not_eq_true', Bool.and_eq_false_iff, Bool.or_eq_false_iff, Bool.not_eq_false', decide_eq_true_eq, decide_eq_false_iff_not, eqNil] at hg; omega) )
  apply hK; clear hK K
  -- region 3  builder.go:98
  refine awp_rseq [4] (by rfl) fun K hK => ?_
  simp (decide := true) only [aOps_nil, ev, absV, absS, putD, Slots.put, Slots.keep, if_true, true_and, ↓ap_assign, pop_assign]
  repeat (with_reducible refine And.intro ?_ ?_; · first | trivial | omega | (intro hg; simp only [Bool.and_eq_true, Bool.or_eq_true, Bool.not_eq_true', Bool.and_eq_false_iff, Bool.or_eq_false_iff, Bool.not_eq_false', decide_eq_true_eq, decide_eq_false_iff_not, eqNil] at hg; omega) )
  apply hK; clear hK K
  refine awp_ret ?_
  try simp only [thenA_ret, inBlockA_ret]
  refine retA_ret (bldH h k rest st') hsub (resPre_tmp (resPre_nil)) ?_
  simp (decide := true) only [Slots.get, if_true, true_and, resOf_one]
  exact ⟨st', hst', hb', rfl⟩
end Go.Proofs.YtmadddihphkmoaaDoor

/-
  Contracts: quote of the scanner.
  Conditions: none.
-/
namespace Go.Proofs.YtmadddihphkmoaaDoor
open Go.AM
open Go.Proofs
open Go.Col
open Go.Tok
open Go.RowKit (Below)
set_option maxRecDepth 100000

theorem Bld.slice_lenT {st : Bld} : st.slice = .nilSlice ∧ st.bytes = [] ∨ ∃ l o c, st.slice = .slice l o st.bytes.length c := by
  cases hb : st.buf with
  | none => exact .inl ⟨Bld.slice_nil hb, Bld.bytes_nil hb⟩
  | some q => exact .inr ⟨.own q.1, 0, .grow 1, by rw [Bld.slice_some (kb := q.1) (l := q.2) hb, Bld.bytes_some (kb := q.1) (l := q.2) hb]⟩
theorem c_bLenT (w₀ : World) (h : AHeap) (k : Nat) (rest : List AVal) (st : Bld) (hst : st.ok 5 h k) :
    ACall Tryd.prog w₀ 55 [.ptr (.own k) 0] (bldH h k rest st) (fun v h' => v = .int .i64 st.bytes.length ∧ h' = bldH h k rest st) := by
  have hhead := bldH_head (rest := rest) hst
  have r1 : rd w₀ (bldH h k rest st) (.own k) 1 = st.slice := rd_own w₀ hhead 1
  have hl : pLen Tryd.prog 77 st.slice = ⟨True, .int .i64 st.bytes.length⟩ := by
    rcases Bld.slice_lenT (st := st) with ⟨e1, e2⟩ | ⟨l, o, c, e⟩
    · rw [e1, e2]; exact pLen_nil Tryd.underlying77
    · rw [e]; exact pLen_slice Tryd.underlying77 _ _ _ _
  refine acall_intro (n := 8) (rs := [.tmp 2]) Tryd.func55 rfl rfl rfl rfl (Nat.le_of_ble_eq_true rfl) ?_
  simp only [initSlots]
  -- region 0  builder.go:51
  refine awp_rseq [0] (by rfl) fun K hK => ?_
  simp (decide := true) only [aOps_nil, ev, absV, absS, putD, Slots.put, Slots.keep, if_true, if_false, true_and, ↓ap_assign, pop_assign]
  repeat (with_reducible refine And.intro ?_ ?_; · first | trivial | omega | (intro hg; simp only [Bool.and_eq_true, Bool.or_eq_true, Bool.not_eq_true', Bool.and_eq_false_iff, Bool.or_eq_false_iff, Bool.not_eq_false', decide_eq_true_eq, decide_eq_false_iff_not, eqNil] at hg; omega) )
  apply hK; clear hK K
  -- region 1  builder.go:51
  refine awp_rseq [2] (by rfl) fun K hK => ?_
  simp (decide := true) only [aOps_nil, ev, putD, Slots.put, Slots.get, Slots.keep, if_true, if_false, true_and, ↓ap_move, pop_move, ↓ap_nilCheck, pop_nilCheck, pNil_ptr, ↓ap_fieldAddr, pop_fieldAddr, fa79_1, ↓ap_loadL, apL_mk, pLoad_one ag77, ↓ap_len, pop_len, ↓ap_assign, pop_assign, r1, Bld.slice_live, hl]
  repeat (with_reducible refine And.intro ?_ ?_; · first | trivial | omega | (intro hg; simp only [Bool.and_eq_true, Bool.or_eq_true, Bool.not_eq_true', Bool.and_eq_false_iff, Bool.or_eq_false_iff, Bool.not_eq_false', decide_eq_true_eq, decide_eq_false_iff_not, eqNil] at hg; omega) )
  apply hK; clear hK K
  refine awp_ret ?_
  try simp only [thenA_ret, inBlockA_ret]
  refine retA_ret _ (Sub.refl _) (resPre_tmp (resPre_nil)) ?_
  simp (decide := true) only [Slots.get, if_true, and_true, resOf_one]
  all_goals first | rfl | exact ⟨rfl, rfl⟩ | (simp (decide := true) only [if_true, if_false, *]; done) | (trace_state; fail)
theorem bldT_selfT : BldT 79 ([] : List AVal).length.succ.succ := ⟨by kernel_rfl, by kernel_rfl, by decide⟩
set_option maxHeartbeats 1000000 in
theorem c_quote (w₀ : World) (h : AHeap) (kx : Nat) (lf : Bool) (s : Str) (mv tv : AVal) (i : Nat) (eb_x : h kx = some ⟨[.bool lf, .str s, mv, .int .i64 i, tv], 0⟩) (hi : i < s.length) (hs : s.length ≤ 1099511627776) :
    ACall Tryd.prog w₀ 67 [.ptr (.own kx) 0] h (fun r h' => r = nxR (quoteE s i) ∧ h' = h) := by
  have hs_h : Sub h h := Sub.refl h
  refine acall_intro (n := 44) (rs := [.cell 2 35, .tmp 3, .tmp 4]) Tryd.func67 rfl rfl rfl rfl (Nat.le_of_ble_eq_true rfl) ?_
  simp only [initSlots]
  -- region 0  tokens.go:107
  refine awp_rseq [0, 2] (by rfl) fun K hK => ?_
  refine aOps_alloc ze35 (cs := [.int .u8 0, .str [], .int .i64 0, .int .i64 0, .bool false]) (by rfl) fun k0q0 hk0q0 => ?_
  have hn_0q0 : h k0q0 = none := by first | assumption | (simp only [AHeap.set_none] at hk0q0; simp only [hk0q0])
  have hf_0q0 : h k0q0 = none := Sub.none hs_h hn_0q0
  have ne_0q0_x : k0q0 ≠ kx := AHeap.ne_some hn_0q0 eb_x
  simp (decide := true) only [aOps_nil, ev, absV, absS, putD, Slots.put, Slots.keep, if_true, if_false, true_and, ↓ap_assign, pop_assign]
  repeat (with_reducible refine And.intro ?_ ?_; · first | trivial | omega | (intro hg; simp only [Bool.and_eq_true, Bool.or_eq_true, Bool.not_eq_true', Bool.and_eq_false_iff, Bool.or_eq_false_iff, Bool.not_eq_false', decide_eq_true_eq, decide_eq_false_iff_not, eqNil] at hg; omega) )
  apply hK; clear hK K
  -- region 1  tokens.go:108
  refine awp_aseqT [0, 2, 5] (by decide) (by decide) ze79 (cs := [.nilPtr, .nilSlice]) (by rfl) fun k1q0 hk1q0 ht1q0 => ?_
  simp (decide := true) only [Slots.put, Slots.keep, if_true, if_false]
  have ne_1q0_0q0 : k1q0 ≠ k0q0 := by simp only [AHeap.set_none] at hk1q0; simp only [hk1q0, ne_eq, not_false_eq_true]
  have hn_1q0 : h k1q0 = none := by first | assumption | (simp only [AHeap.set_none] at hk1q0; simp only [hk1q0])
  have hf_1q0 : h k1q0 = none := Sub.none hs_h hn_1q0
  have ne_1q0_x : k1q0 ≠ kx := AHeap.ne_some hn_1q0 eb_x
  obtain ⟨H, hH⟩ : ∃ H, H = h.set k0q0 ⟨[.int .u8 0, .str [], .int .i64 0, .int .i64 0, .bool false], 0⟩ := ⟨_, rfl⟩
  have hxH : H kx = some ⟨[.bool lf, .str s, mv, .int .i64 i, tv], 0⟩ := by rw [hH]; exact (by repeat (first | exact AHeap.set_same _ _ _ | assumption | refine (AHeap.set_ne _ _ (by first | assumption | exact Ne.symm (by assumption))).trans ?_))
  have h0H : H k0q0 = some ⟨[.int .u8 0, .str [], .int .i64 0, .int .i64 0, .bool false], 0⟩ := by rw [hH]; exact (by repeat (first | exact AHeap.set_same _ _ _ | assumption | refine (AHeap.set_ne _ _ (by first | assumption | exact Ne.symm (by assumption))).trans ?_))
  have hsH : Sub h H := by rw [hH]; exact (by repeat (first | exact Sub.refl _ | assumption | refine Sub.set_both ?_ _ _ | refine Sub.trans_set ?_ (by repeat (first | assumption | refine (AHeap.set_ne _ _ (by first | assumption | exact Ne.symm (by assumption))).trans ?_))))
  rw [← hH] at hk1q0 ⊢
  refine awp_seq ?_
  -- region 2  tokens.go:109
  refine awp_rseq [0, 2, 5, 6] (by rfl) fun K hK => ?_
  simp (decide := true) only [aOps_nil, ev, absV, absS, putD, Slots.put, Slots.keep, if_true, if_false, true_and, ↓ap_assign, pop_assign]
  repeat (with_reducible refine And.intro ?_ ?_; · first | trivial | omega | (intro hg; simp only [Bool.and_eq_true, Bool.or_eq_true, Bool.not_eq_true', Bool.and_eq_false_iff, Bool.or_eq_false_iff, Bool.not_eq_false', decide_eq_true_eq, decide_eq_false_iff_not, eqNil] at hg; omega) )
  apply hK; clear hK K
  refine awp_block ?_
  refine awp_loopG [0, 2, 5, 6] (fun g : Nat × Bld => [(0, .ptr (.own kx) 0), (2, .ptr (.own k0q0) 0), (5, .ptr (.own k1q0) 0), (6, .int .i64 g.1)]) (fun g : Nat × Bld => bldH H k1q0 [] g.2) (fun g : Nat × Bld => i + g.1 ≤ s.length ∧ g.2.ok 5 H k1q0 ∧ quoteGo (s.drop (i + g.1)) g.2.bytes g.1 = quoteE s i ∧ g.2.bytes.length ≤ g.1) (fun g : Nat × Bld => s.length - g.1) (1, Bld.none) (by rfl) (Sub.refl _) ⟨hi, Bld.none_ok, rfl, Nat.zero_le _⟩ ?_
  rintro ⟨n, st⟩ ⟨hn, hst, hgo, hbl⟩
  simp only at hn hst hgo hbl ⊢
  have hsb := Sub.bldH (rest := []) hk1q0 hst
  have hSb := hsH.trans hsb
  have hxb := hsb _ _ hxH
  have h0b := hsb _ _ h0H
  have rx := fun o => rd_own w₀ hxb o
  refine awp_seq ?_
  -- region 3  tokens.go:109
  refine awp_dseq_all [0, 2, 5, 6, 19] mixed (by kernel_rfl) (by rfl) (by rfl) fun K hK => ?_
  simp (decide := true) only [aOps_nil, ev, putD, Slots.put, Slots.get, Slots.keep, if_true, if_false, true_and, ↓ap_move, pop_move, ↓ap_nilCheck, pop_nilCheck, pNil_ptr, ↓ap_fieldAddr, pop_fieldAddr, fa71_1, ↓ap_loadL, apL_mk, pLoad_one ag3, ↓ap_binOp, pop_binOp, isNilC_tmp, cond_false, pBinX_int, pI_add, fa71_0, fa68_1, pLoad_one ag9, ↓ap_len, pop_len, pLen_str Tryd.underlying9, pI_lss, List.getD_cons_zero, List.getD_cons_succ, Nat.zero_add, lv_int, lv_str, rx]
  try simp (disch := omega) only [wrap_i64]
  repeat (with_reducible refine And.intro ?_ ?_; · first | trivial | omega | (intro hg; simp only [Bool.and_eq_true, Bool.or_eq_true, Bool.not_eq_true', Bool.and_eq_false_iff, Bool.or_eq_false_iff, Bool.not_eq_false', decide_eq_true_eq, decide_eq_false_iff_not, eqNil] at hg; omega) )
  apply hK; clear hK K
  refine awp_cond (b := _) rfl (fun hb1 => ?_) (fun hb1 => ?_)
  · try simp only [decide_eq_true_eq] at hb1
    have hin : i + n < s.length := by omega
    have hpn : peekE s ((i : Int) + n) = s.getD (i + n) 0 := by rw [show (i : Int) + (n : Int) = ((i + n : Nat) : Int) by omega, peekE_lt hin]
    have hpn1 : peekE s ((i : Int) + ((n : Int) + 1)) = peekE s ((i + n + 1 : Nat) : Int) := by congr 1
    rw [drop_eq hin] at hgo
    refine awp_skip ?_
    change Awp _ _ _ _ _ _ _
    refine awp_seq ?_
    refine awp_block ?_
    refine awp_seq ?_
    -- region 5  tokens.go:110
    refine awp_rseq [0, 2, 5, 6, 25] (by rfl) fun K hK => ?_
    simp (decide := true) only [ev, putD, Slots.put, Slots.get, if_true, if_false, true_and, ↓ap_move, pop_move]
    repeat (with_reducible refine And.intro ?_ ?_; · first | trivial | omega | (intro hg; simp only [Bool.and_eq_true, Bool.or_eq_true, Bool.not_eq_true', Bool.and_eq_false_iff, Bool.or_eq_false_iff, Bool.not_eq_false', decide_eq_true_eq, decide_eq_false_iff_not, eqNil] at hg; omega) )
    refine aOps_callV (V := .int .u8 (s.getD (i + n) 0).toNat) (by rfl) (by rfl) (by rw [← hpn]; exact c_peek w₀ _ kx lf s mv tv i n hxb (by omega) (by omega) (by omega)) ?_
    simp (decide := true) only [aOps_nil, ev, absV, absS, putD, Slots.put, Slots.get, Slots.keep, if_true, if_false, true_and, ↓ap_binOp, pop_binOp, isNilC_int, cond_false, pBinX_int, pI_eql]
    repeat (with_reducible refine And.intro ?_ ?_; · first | trivial | omega | (intro hg; simp only [Bool.and_eq_true, Bool.or_eq_true, Bool.not_eq_true', Bool.and_eq_false_iff, Bool.or_eq_false_iff, Bool.not_eq_false', decide_eq_true_eq, decide_eq_false_iff_not, eqNil] at hg; omega) )
    apply hK; clear hK K
    refine awp_joinT [0, 2, 5, 6] (fun m : Nat => [(0, .ptr (.own kx) 0), (2, .ptr (.own k0q0) 0), (5, .ptr (.own k1q0) 0), (6, .int .i64 m)]) (fun m : Nat => bldH H k1q0 [] st) (fun m : Nat => n ≤ m ∧ i + m < s.length ∧ quoteGo (s.drop (i + m + 1)) (st.bytes ++ [s.getD (i + m) 0]) (m + 1) = quoteE s i) ?_ ?_
    · refine awp_cond (b := _) rfl (fun hb2 => ?_) (fun hb2 => ?_)
      · try simp only [decide_eq_true_eq] at hb2
        have hb2' : s.getD (i + n) 0 = 34 := (u8_eq _ 34).mp hb2
        rw [hb2'] at hgo
        refine awp_seq ?_
        -- region 6  tokens.go:111
        refine awp_rseq [0, 2, 5, 6, 30] (by rfl) fun K hK => ?_
        simp (decide := true) only [ev, absV, absS, putD, Slots.put, Slots.get, if_true, if_false, true_and, ↓ap_move, pop_move, ↓ap_binOp, pop_binOp, isNilC_int, cond_false, pBinX_int, pI_add]
        try simp (disch := omega) only [wrap_i64]
        repeat (with_reducible refine And.intro ?_ ?_; · first | trivial | omega | (intro hg; simp only [Bool.and_eq_true, Bool.or_eq_true, Bool.not_eq_true', Bool.and_eq_false_iff, Bool.or_eq_false_iff, Bool.not_eq_false', decide_eq_true_eq, decide_eq_false_iff_not, eqNil] at hg; omega) )
        refine aOps_callV (V := .int .u8 (peekE s ((i : Int) + ((n : Int) + 1))).toNat) (by rfl) (by rfl) (c_peek w₀ _ kx lf s mv tv i ((n : Int) + 1) hxb (by omega) (by omega) (by omega)) ?_
        simp (decide := true) only [aOps_nil, ev, absV, absS, putD, Slots.put, Slots.get, Slots.keep, if_true, if_false, true_and, ↓ap_binOp, pop_binOp, isNilC_int, cond_false, pBinX_int, pI_neq]
        repeat (with_reducible refine And.intro ?_ ?_; · first | trivial | omega | (intro hg; simp only [Bool.and_eq_true, Bool.or_eq_true, Bool.not_eq_true', Bool.and_eq_false_iff, Bool.or_eq_false_iff, Bool.not_eq_false', decide_eq_true_eq, decide_eq_false_iff_not, eqNil] at hg; omega) )
        apply hK; clear hK K
        refine awp_cond (b := _) rfl (fun hb3 => ?_) (fun hb3 => ?_)
        · try simp only [decide_eq_false_iff_not, Bool.not_eq_true'] at hb3
          have hb3' : (s.drop (i + n + 1)).head? ≠ some 34 := by
            intro e
            rw [List.head?_drop] at e
            obtain ⟨e1, e2⟩ := List.getElem?_eq_some_iff.1 e
            rw [hpn1, peekE_lt e1, List.getD, e] at hb3
            exact hb3 rfl
          rw [quoteGo_end hb3'] at hgo
          refine awp_seq ?_
          -- region 7  tokens.go:112
          refine awp_rseq [2, 5, 6, 32] (by rfl) fun K hK => ?_
          refine aOps_callV (V := .int .i64 st.bytes.length) (by rfl) (by rfl) (c_bLenT w₀ H k1q0 [] st hst) ?_
          simp (decide := true) only [aOps_nil, ev, absV, absS, putD, Slots.put, Slots.get, Slots.keep, if_true, if_false, true_and, ↓ap_binOp, pop_binOp, isNilC_int, cond_false, pBinX_int, pI_eql]
          repeat (with_reducible refine And.intro ?_ ?_; · first | trivial | omega | (intro hg; simp only [Bool.and_eq_true, Bool.or_eq_true, Bool.not_eq_true', Bool.and_eq_false_iff, Bool.or_eq_false_iff, Bool.not_eq_false', decide_eq_true_eq, decide_eq_false_iff_not, eqNil] at hg; omega) )
          apply hK; clear hK K
          refine awp_cond (b := _) rfl (fun hb4 => ?_) (fun hb4 => ?_)
          · try simp only [decide_eq_true_eq] at hb4
            have hne : st.bytes = [] := List.eq_nil_of_length_eq_zero (by omega)
            have hgo' : quoteE s i = .err 4 := by rw [← hgo, if_pos hne]
            refine awp_exit ?_
            change Awp _ _ _ _ _ _ _
            -- region 11  tokens.go:121
            refine awp_rseq [2, 3, 4] (by rfl) fun K hK => ?_
            simp (decide := true) only [ev, absV, absS, putD, Slots.put, Slots.get, if_false, true_and, ↓ap_build, ↓pop_buildL, bld35_, evP, List.map_nil]
            repeat (with_reducible refine And.intro ?_ ?_; · first | trivial | omega | (intro hg; simp only [Bool.and_eq_true, Bool.or_eq_true, Bool.not_eq_true', Bool.and_eq_false_iff, Bool.or_eq_false_iff, Bool.not_eq_false', decide_eq_true_eq, decide_eq_false_iff_not, eqNil] at hg; omega) )
            refine aOps_store (by rfl) (by rfl) (by repeat (first | exact AHeap.set_same _ _ _ | assumption | refine (AHeap.set_ne _ _ (by first | assumption | exact Ne.symm (by assumption))).trans ?_)) sz35 (by rfl) (by rfl) (by first | exact Nat.le_refl _ | decide | (simp; done) | (simp; omega)) (Nat.zero_le _) (by rfl) ?_
            simp only [AVal.cells]
            simp (decide := true) only [aOps_nil, ev, absV, absS, putD, Slots.put, Slots.get, Slots.keep, if_true, if_false, true_and, ↓ap_assign, pop_assign, setAt, List.set_cons_zero, List.set_cons_succ, Nat.zero_add, Nat.reduceAdd]
            repeat (with_reducible refine And.intro ?_ ?_; · first | trivial | omega | (intro hg; simp only [Bool.and_eq_true, Bool.or_eq_true, Bool.not_eq_true', Bool.and_eq_false_iff, Bool.or_eq_false_iff, Bool.not_eq_false', decide_eq_true_eq, decide_eq_false_iff_not, eqNil] at hg; omega) )
            apply hK; clear hK K
            refine awp_ret ?_
            try simp only [thenA_ret, inBlockA_ret]
            refine retA_ret h (by repeat (first | exact Sub.refl _ | assumption | refine Sub.trans_set ?_ (by assumption))) (?_) ?_
            · simp (decide := true) only [resPre, resV_tmp, resV_cell, Slots.get, if_true, if_false, and_true, resV_tmp, resV_cell, pLoad_agg ag35 sz35, rd_set, cellsAt, List.getD_cons_zero, List.getD_cons_succ, Nat.zero_add, Nat.reduceAdd, lv_bool, lv_int, lv_str, allLive, Bool.and_true, cellsAt, List.getD_cons_zero, List.getD_cons_succ, Nat.zero_add, Nat.reduceAdd, lv_bool, lv_int, lv_str, allLive, Bool.and_true]
            
            simp (decide := true) only [Slots.get, if_true, if_false, and_true, resOfG_three, resV_tmp, resV_cell, pLoad_agg ag35 sz35, rd_set, cellsAt, List.getD_cons_zero, List.getD_cons_succ, Nat.zero_add, Nat.reduceAdd, lv_bool, lv_int, lv_str, allLive, Bool.and_true, cellsAt, List.getD_cons_zero, List.getD_cons_succ, Nat.zero_add, Nat.reduceAdd, lv_bool, lv_int, lv_str, allLive, Bool.and_true, nxA, nxR]
            rw [hgo']
            rfl
          · try simp only [decide_eq_false_iff_not] at hb4
            have hne : ¬ st.bytes = [] := fun e => hb4 (by rw [e]; rfl)
            refine awp_skip ?_
            change Awp _ _ _ _ _ _ _
            -- region 8  tokens.go:115
            refine awp_rseq [2, 3, 4] (by rfl) fun K hK => ?_
            refine aOps_call (by rfl) (by rfl) (c_bString w₀ H k1q0 [] st _ hk1q0 ht1q0 hst (by omega)) fun x8q0 h8q0 hx8q0 => ?_
            obtain ⟨hv8, hh8⟩ := hx8q0
            rw [hv8, hh8]
            rw [if_neg hne] at hgo
            simp (decide := true) only [ev, absV, absS, putD, Slots.put, Slots.get, if_true, if_false, true_and, ↓ap_build, ↓pop_buildL, bld35_0_1, evP, List.map_cons, List.map_nil, ↓ap_move, pop_move, ↓ap_binOp, pop_binOp, isNilC_int, cond_false, pBinX_int, pI_add]
            try simp (disch := omega) only [wrap_i64]
            repeat (with_reducible refine And.intro ?_ ?_; · first | trivial | omega | (intro hg; simp only [Bool.and_eq_true, Bool.or_eq_true, Bool.not_eq_true', Bool.and_eq_false_iff, Bool.or_eq_false_iff, Bool.not_eq_false', decide_eq_true_eq, decide_eq_false_iff_not, eqNil] at hg; omega) )
            refine aOps_store (by rfl) (by rfl) (by repeat (first | exact AHeap.set_same _ _ _ | assumption | refine (AHeap.set_ne _ _ (by first | assumption | exact Ne.symm (by assumption))).trans ?_)) sz35 (by rfl) (by rfl) (by first | exact Nat.le_refl _ | decide | (simp; done) | (simp; omega)) (Nat.zero_le _) (by rfl) ?_
            simp only [AVal.cells]
            simp (decide := true) only [aOps_nil, ev, absV, absS, putD, Slots.put, Slots.get, Slots.keep, if_true, if_false, true_and, ↓ap_assign, pop_assign, setAt, List.set_cons_zero, List.set_cons_succ, Nat.zero_add, Nat.reduceAdd]
            repeat (with_reducible refine And.intro ?_ ?_; · first | trivial | omega | (intro hg; simp only [Bool.and_eq_true, Bool.or_eq_true, Bool.not_eq_true', Bool.and_eq_false_iff, Bool.or_eq_false_iff, Bool.not_eq_false', decide_eq_true_eq, decide_eq_false_iff_not, eqNil] at hg; omega) )
            apply hK; clear hK K
            refine awp_ret ?_
            try simp only [thenA_ret, inBlockA_ret]
            refine retA_ret h (by repeat (first | exact Sub.refl _ | assumption | refine Sub.trans_set ?_ (by assumption))) (?_) ?_
            · simp (decide := true) only [resPre, resV_tmp, resV_cell, Slots.get, if_true, if_false, and_true, resV_tmp, resV_cell, pLoad_agg ag35 sz35, rd_set, cellsAt, List.getD_cons_zero, List.getD_cons_succ, Nat.zero_add, Nat.reduceAdd, lv_bool, lv_int, lv_str, allLive, Bool.and_true, cellsAt, List.getD_cons_zero, List.getD_cons_succ, Nat.zero_add, Nat.reduceAdd, lv_bool, lv_int, lv_str, allLive, Bool.and_true]
            
            simp (decide := true) only [Slots.get, if_true, if_false, and_true, resOfG_three, resV_tmp, resV_cell, pLoad_agg ag35 sz35, rd_set, cellsAt, List.getD_cons_zero, List.getD_cons_succ, Nat.zero_add, Nat.reduceAdd, lv_bool, lv_int, lv_str, allLive, Bool.and_true, cellsAt, List.getD_cons_zero, List.getD_cons_succ, Nat.zero_add, Nat.reduceAdd, lv_bool, lv_int, lv_str, allLive, Bool.and_true, nxA, nxR]
            rw [← hgo]
            rfl
        · try simp only [decide_eq_true_eq, Bool.not_eq_false'] at hb3
          have hb3' : peekE s ((i + n + 1 : Nat) : Int) = 34 := by rw [← hpn1]; exact (u8_eq _ 34).mp hb3
          have hin1 : i + n + 1 < s.length := peekE_in (by rw [hb3']; decide)
          rw [peekE_lt hin1] at hb3'
          rw [drop_eq hin1, hb3', quoteGo_two] at hgo
          refine awp_skip ?_
          change Awp _ _ _ _ _ _ _
          -- region 9  tokens.go:117
          refine awp_r [0, 2, 5, 6] (by rfl) ?_
          simp (decide := true) only [aOps_nil, ev, absV, absS, putD, Slots.put, Slots.get, Slots.keep, if_true, if_false, true_and, ↓ap_move, pop_move, ↓ap_binOp, pop_binOp, isNilC_int, cond_false, pBinX_int, pI_add, ↓ap_assign, pop_assign, nxA, nxR]
          try simp (disch := omega) only [wrap_i64]
          repeat (with_reducible refine And.intro ?_ ?_; · first | trivial | omega | (intro hg; simp only [Bool.and_eq_true, Bool.or_eq_true, Bool.not_eq_true', Bool.and_eq_false_iff, Bool.or_eq_false_iff, Bool.not_eq_false', decide_eq_true_eq, decide_eq_false_iff_not, eqNil] at hg; omega) )
          try simp only [thenA_normal]
          first
          | exact ⟨n + 1, rfl, Sub.refl _, by omega, by omega, by rw [← hgo, show i + (n + 1) = i + n + 1 by omega, hb3']⟩
          | exact ⟨n, rfl, Sub.refl _, by omega, by omega, by rw [← hgo, quoteGo_other (fun e => hb2 ((u8_eq _ 34).mpr e))]⟩
      · try simp only [decide_eq_false_iff_not] at hb2
        refine awp_skip ?_
        try simp only [thenA_normal]
        first
        | exact ⟨n + 1, rfl, Sub.refl _, by omega, by omega, by rw [← hgo, show i + (n + 1) = i + n + 1 by omega, hb3']⟩
        | exact ⟨n, rfl, Sub.refl _, by omega, by omega, by rw [← hgo, quoteGo_other (fun e => hb2 ((u8_eq _ 34).mpr e))]⟩
    · rintro m ⟨hnm, him, hgm⟩
      have hpm : peekE s ((i : Int) + m) = s.getD (i + m) 0 := by rw [show (i : Int) + (m : Int) = ((i + m : Nat) : Int) by omega, peekE_lt him]
      -- region 10  tokens.go:119
      refine awp_r [0, 2, 5, 6] (by rfl) ?_
      simp (decide := true) only [ev, putD, Slots.put, Slots.get, if_true, if_false, true_and, ↓ap_move, pop_move, nxA, nxR]
      repeat (with_reducible refine And.intro ?_ ?_; · first | trivial | omega | (intro hg; simp only [Bool.and_eq_true, Bool.or_eq_true, Bool.not_eq_true', Bool.and_eq_false_iff, Bool.or_eq_false_iff, Bool.not_eq_false', decide_eq_true_eq, decide_eq_false_iff_not, eqNil] at hg; omega) )
      refine aOps_callV (V := .int .u8 (s.getD (i + m) 0).toNat) (by rfl) (by rfl) (by rw [← hpm]; exact c_peek w₀ _ kx lf s mv tv i m hxb (by omega) (by omega) (by omega)) ?_
      refine aOps_call (by rfl) (by rfl) (c_WriteByte w₀ H k1q0 [] st _ bldT_selfT ht1q0 hk1q0 hst (s.getD (i + m) 0) (by omega)) fun x10q3 h10q3 hx10q3 => ?_
      obtain ⟨hv10, st', hst', hbt', hh10⟩ := hx10q3
      rw [hh10]
      simp (decide := true) only [aOps_nil, putD, Slots.put, Slots.keep, if_true, if_false]
      repeat (with_reducible refine And.intro ?_ ?_; · first | trivial | omega | (intro hg; simp only [Bool.and_eq_true, Bool.or_eq_true, Bool.not_eq_true', Bool.and_eq_false_iff, Bool.or_eq_false_iff, Bool.not_eq_false', decide_eq_true_eq, decide_eq_false_iff_not, eqNil] at hg; omega) )
      change Awp _ _ _ _ _ _ _
      -- region 4  tokens.go:109
      refine awp_r [0, 2, 5, 6] (by rfl) ?_
      simp (decide := true) only [aOps_nil, ev, absV, absS, putD, Slots.put, Slots.get, Slots.keep, if_true, if_false, true_and, ↓ap_move, pop_move, ↓ap_binOp, pop_binOp, isNilC_int, cond_false, pBinX_int, pI_add, ↓ap_assign, pop_assign]
      try simp (disch := omega) only [wrap_i64]
      repeat (with_reducible refine And.intro ?_ ?_; · first | trivial | omega | (intro hg; simp only [Bool.and_eq_true, Bool.or_eq_true, Bool.not_eq_true', Bool.and_eq_false_iff, Bool.or_eq_false_iff, Bool.not_eq_false', decide_eq_true_eq, decide_eq_false_iff_not, eqNil] at hg; omega) )
      try simp only [thenA_normal]
      refine ⟨(m + 1, st'), rfl, Sub.refl _, ⟨by simp only; omega, hst', ?_, by simp only; rw [hbt', List.length_append]; simp; omega⟩, by simp only; omega⟩
      simp only
      rw [hbt', ← Nat.add_assoc]
      exact hgm
  · try simp only [decide_eq_false_iff_not] at hb1
    have hend : quoteE s i = .err 4 := by rw [← hgo, List.drop_eq_nil_of_le (by omega), quoteGo_nil]
    refine awp_exit ?_
    change Awp _ _ _ _ _ _ _
    -- region 11  tokens.go:121
    refine awp_rseq [2, 3, 4] (by rfl) fun K hK => ?_
    simp (decide := true) only [ev, absV, absS, putD, Slots.put, Slots.get, if_false, true_and, ↓ap_build, ↓pop_buildL, bld35_, evP, List.map_nil]
    repeat (with_reducible refine And.intro ?_ ?_; · first | trivial | omega | (intro hg; simp only [Bool.and_eq_true, Bool.or_eq_true, Bool.not_eq_true', Bool.and_eq_false_iff, Bool.or_eq_false_iff, Bool.not_eq_false', decide_eq_true_eq, decide_eq_false_iff_not, eqNil] at hg; omega) )
    refine aOps_store (by rfl) (by rfl) (by repeat (first | exact AHeap.set_same _ _ _ | assumption | refine (AHeap.set_ne _ _ (by first | assumption | exact Ne.symm (by assumption))).trans ?_)) sz35 (by rfl) (by rfl) (by first | exact Nat.le_refl _ | decide | (simp; done) | (simp; omega)) (Nat.zero_le _) (by rfl) ?_
    simp only [AVal.cells]
    simp (decide := true) only [aOps_nil, ev, absV, absS, putD, Slots.put, Slots.get, Slots.keep, if_true, if_false, true_and, ↓ap_assign, pop_assign, setAt, List.set_cons_zero, List.set_cons_succ, Nat.zero_add, Nat.reduceAdd]
    repeat (with_reducible refine And.intro ?_ ?_; · first | trivial | omega | (intro hg; simp only [Bool.and_eq_true, Bool.or_eq_true, Bool.not_eq_true', Bool.and_eq_false_iff, Bool.or_eq_false_iff, Bool.not_eq_false', decide_eq_true_eq, decide_eq_false_iff_not, eqNil] at hg; omega) )
    apply hK; clear hK K
    refine awp_ret ?_
    try simp only [thenA_ret, inBlockA_ret]
    refine retA_ret h (by repeat (first | exact Sub.refl _ | assumption | refine Sub.trans_set ?_ (by assumption))) (?_) ?_
    · simp (decide := true) only [resPre, resV_tmp, resV_cell, Slots.get, if_true, if_false, and_true, resV_tmp, resV_cell, pLoad_agg ag35 sz35, rd_set, cellsAt, List.getD_cons_zero, List.getD_cons_succ, Nat.zero_add, Nat.reduceAdd, lv_bool, lv_int, lv_str, allLive, Bool.and_true, cellsAt, List.getD_cons_zero, List.getD_cons_succ, Nat.zero_add, Nat.reduceAdd, lv_bool, lv_int, lv_str, allLive, Bool.and_true]
    
    simp (decide := true) only [Slots.get, if_true, if_false, and_true, resOfG_three, resV_tmp, resV_cell, pLoad_agg ag35 sz35, rd_set, cellsAt, List.getD_cons_zero, List.getD_cons_succ, Nat.zero_add, Nat.reduceAdd, lv_bool, lv_int, lv_str, allLive, Bool.and_true, cellsAt, List.getD_cons_zero, List.getD_cons_succ, Nat.zero_add, Nat.reduceAdd, lv_bool, lv_int, lv_str, allLive, Bool.and_true, nxA, nxR]
    rw [hend]
    rfl
end Go.Proofs.YtmadddihphkmoaaDoor

