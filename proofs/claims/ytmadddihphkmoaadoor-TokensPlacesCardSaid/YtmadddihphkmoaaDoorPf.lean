/-
  Texts of this proof, joined: TkL, CoE, TkM, TkN, CoF, CoG, CoH.
  Conditions: none.
-/
import Derived.Test.YtmadddihphkmoaaDoorPe
import Derived.Test.YtmadddihphkmoaaDoorPc
set_option linter.unusedSimpArgs false
set_option linter.unnecessarySimpa false
set_option linter.unusedVariables false
/-
  Contracts: next of the scanner.
  Conditions: none.
-/
namespace Go.Proofs.YtmadddihphkmoaaDoor
open Go.AM
open Go.Proofs
open Go.Col
open Go.Tok
open Go.RowKit (Below)
set_option maxRecDepth 100000

set_option maxHeartbeats 1000000 in
theorem c_next (w₀ : World) (h : AHeap) (kx : Nat) (lf : Bool) (s : Str) (mv tv : AVal) (i : Nat) (l : List TokC) (eb_x : h kx = some ⟨[.bool lf, .str s, mv, .int .i64 i, tv], 0⟩) (ht : IsL w₀ h 5 tv (l.map tokC)) (hl : l.length ≤ 1099511627776) (h32 : peekE s i ≠ 32) (hs : s.length ≤ 1099511627776) :
    ACall Tryd.prog w₀ 44 [.ptr (.own kx) 0] h (fun r h' => r = nxR (nextE s i l) ∧ h' = h) := by
  have hs_h : Sub h h := Sub.refl h
  have hi := peekE_in h32
  have hdr : (s.drop ((i : Int)).toNat).take (((s.length : Nat) : Int).toNat - ((i : Int)).toNat) = s.drop i := by rw [Int.toNat_natCast, Int.toNat_natCast, List.take_of_length_le (by simp)]
  obtain ⟨eqs, heqs⟩ : ∃ e, e = List.isPrefixOf [61, 61] (s.drop i) := ⟨_, rfl⟩
  have hnx : nextE s i l = if (picE l).1 = true ∧ eqs = false then pictureE s i (picE l).2
      else if peekE s i = 34 then quoteE s i
      else if peekE s i = 46 ∧ peekE s (i + 1) = 32 then Tok.takeE s i 6 1
      else if eqs = true then Tok.takeE s i 7 2
      else if 0 < (numberE s i).n ∨ (numberE s i).e ≠ 0 then numberE s i
      else if wordyB (peekE s i) = true ∧ peekE s i ≠ 45 then nameE s i
      else signE s i := by rw [heqs]; rfl
  refine acall_intro (n := 110) (rs := [.cell 2 35, .tmp 3, .tmp 4]) Tryd.func44 rfl rfl rfl rfl (Nat.le_of_ble_eq_true rfl) ?_
  simp only [initSlots]
  -- region 0  tokens.go:181
  refine awp_rseq [0, 2] (by rfl) fun K hK => ?_
  refine aOps_alloc ze35 (cs := [.int .u8 0, .str [], .int .i64 0, .int .i64 0, .bool false]) (by rfl) fun k0q0 hk0q0 => ?_
  have hn_0q0 : h k0q0 = none := by first | assumption | (simp only [AHeap.set_none] at hk0q0; simp only [hk0q0])
  have hf_0q0 : h k0q0 = none := Sub.none hs_h hn_0q0
  have ne_0q0_x : k0q0 ≠ kx := AHeap.ne_some hn_0q0 eb_x
  simp (decide := true) only [aOps_nil, ev, absV, absS, putD, Slots.put, Slots.keep, if_true, if_false, true_and, ↓ap_assign, pop_assign]
  repeat (with_reducible refine And.intro ?_ ?_; · first | trivial | omega | (intro hg; simp only [Bool.and_eq_true, Bool.or_eq_true, Bool.not_eq_true', Bool.and_eq_false_iff, Bool.or_eq_false_iff, Bool.not_eq_false', decide_eq_true_eq, decide_eq_false_iff_not, eqNil] at hg; omega) )
  apply hK; clear hK K
  refine awp_seq ?_
  -- region 1  tokens.go:182
  refine awp_rseq [0, 2, 5, 6] (by rfl) fun K hK => ?_
  simp (decide := true) only [ev, putD, Slots.put, Slots.get, if_true, if_false, true_and, ↓ap_move, pop_move]
  repeat (with_reducible refine And.intro ?_ ?_; · first | trivial | omega | (intro hg; simp only [Bool.and_eq_true, Bool.or_eq_true, Bool.not_eq_true', Bool.and_eq_false_iff, Bool.or_eq_false_iff, Bool.not_eq_false', decide_eq_true_eq, decide_eq_false_iff_not, eqNil] at hg; omega) )
  refine aOps_callV (V := .tuple [.bool (picE l).1, .bool (picE l).2]) (by rfl) (by rfl) (c_pictures w₀ _ kx lf s mv tv i l ((by repeat (first | exact AHeap.set_same _ _ _ | assumption | refine (AHeap.set_ne _ _ (by first | assumption | exact Ne.symm (by assumption))).trans ?_))) (ht.mono ((by repeat (first | exact Sub.refl _ | assumption | refine Sub.set_both ?_ _ _ | refine Sub.trans_set ?_ (by repeat (first | assumption | refine (AHeap.set_ne _ _ (by first | assumption | exact Ne.symm (by assumption))).trans ?_)))))) hl) ?_
  simp (decide := true) only [aOps_nil, ev, putD, Slots.put, Slots.get, Slots.keep, if_true, if_false, true_and, ↓ap_move, pop_move, ↓ap_extract, pop_extract, pExt_tuple, List.length_cons, List.length_nil, List.getD_cons_zero, List.getD_cons_succ, ↓ap_assign, pop_assign, List.getD_cons_zero, List.getD_cons_succ, Nat.zero_add, Nat.reduceAdd]
  repeat (with_reducible refine And.intro ?_ ?_; · first | trivial | omega | (intro hg; simp only [Bool.and_eq_true, Bool.or_eq_true, Bool.not_eq_true', Bool.and_eq_false_iff, Bool.or_eq_false_iff, Bool.not_eq_false', decide_eq_true_eq, decide_eq_false_iff_not, eqNil] at hg; omega) )
  apply hK; clear hK K
  -- region 2  tokens.go:182
  refine awp_dseq_any [0, 2, 6, 30] mixed (by kernel_rfl) (by rfl) fun K hK => ?_
  simp (decide := true) only [ev, putD, Slots.put, Slots.get, if_true, if_false, true_and, ↓vp_move, pop_move, ↓vg_move, vgP, vgQ_some, nthDst, gKnown_bool, guardB_bool_true, implies_true, ↓vg_nilCheck, pop_nilCheck, pNil_ptr, cv_nil, cp_nil, ↓vg_fieldAddr, pop_fieldAddr, fa71_0, cv_fieldAddr, cp_fieldAddr, fa68_1, ↓vg_load, pop_load, pLoad_one ag9, cv_load, cp_load, fa71_1, pLoad_one ag3, ↓vg_slice, pop_slice, evO, pSliceS_i0 Tryd.underlying9, pSliceS, bndA_none, bndA_int, cv_slice, cp_slice, cv_slicelo, cp_slicelo, rd_ne', ne_eq, not_false_eq_true, ne_0q0_x.symm, rd_own w₀ eb_x, List.getD_cons_zero, List.getD_cons_succ, Nat.zero_add, lv_int, lv_str, hdr]
  repeat (with_reducible refine And.intro ?_ ?_; · first | trivial | omega | (intro hg; simp only [Bool.and_eq_true, Bool.or_eq_true, Bool.not_eq_true', Bool.and_eq_false_iff, Bool.or_eq_false_iff, Bool.not_eq_false', decide_eq_true_eq, decide_eq_false_iff_not, eqNil] at hg; omega) )
  refine vOps_gcall (V := .bool eqs) (f := _) (cap := _) (xs := _) (by first | rfl | (simp (decide := true) only [gv, nthDst, Slots.get, if_true, if_false, gKnown_cond, gKnown_bool])) (fun hg => ⟨rfl, ?_⟩) (fun hg => by rw [heqs]; exact c_pref w₀ _ (s.drop i) [61, 61]) ?_
  · try simp (decide := true) only [gv, nthDst, Slots.get, if_true, if_false, guardB_bool_true] at hg
    simp (decide := true) only [evs, ev, Slots.get, if_true, if_false, hg, condV_true, List.append_nil, List.map_cons, List.map_nil, absV, absS]
  simp (decide := true) only [vOps_nil, ev, absV, absS, putD, Slots.put, Slots.get, Slots.keep, if_true, if_false, true_and, gv, nthDst, guardB_bool_true, ↓vg_unOp, pop_unOp, vgP, vgQ_some, gKnown_bool, implies_true, pU_not, cv_un, cp_un, ↓vp_pick, pop_pick, pPick_bool, pickV_cond_l, pickV_and]
  try simp (disch := omega) only [wrap_i64, wrap_u8]
  repeat (with_reducible refine And.intro ?_ ?_; · first | trivial | omega | (intro hg; simp only [Bool.and_eq_true, Bool.or_eq_true, Bool.not_eq_true', Bool.and_eq_false_iff, Bool.or_eq_false_iff, Bool.not_eq_false', decide_eq_true_eq, decide_eq_false_iff_not, eqNil] at hg; omega) )
  apply hK; clear hK K
  refine awp_cond (b := _) rfl (fun hb1 => ?_) (fun hb1 => ?_)
  · try simp only [Bool.not_eq_true', Bool.and_eq_true] at hb1
    -- region 3  tokens.go:183
    refine awp_rseq [2, 3, 4] (by rfl) fun K hK => ?_
    simp (decide := true) only [ev, putD, Slots.put, Slots.get, if_true, if_false, true_and, ↓ap_move, pop_move]
    repeat (with_reducible refine And.intro ?_ ?_; · first | trivial | omega | (intro hg; simp only [Bool.and_eq_true, Bool.or_eq_true, Bool.not_eq_true', Bool.and_eq_false_iff, Bool.or_eq_false_iff, Bool.not_eq_false', decide_eq_true_eq, decide_eq_false_iff_not, eqNil] at hg; omega) )
    refine aOps_callV (V := nxR (pictureE s i (picE l).2)) (by rfl) (by rfl) (c_picture w₀ _ kx lf s mv tv i _ ((by repeat (first | exact AHeap.set_same _ _ _ | assumption | refine (AHeap.set_ne _ _ (by first | assumption | exact Ne.symm (by assumption))).trans ?_))) h32 hs) ?_
    simp (decide := true) only [ev, putD, Slots.put, Slots.get, if_true, if_false, true_and, ↓ap_extract, pop_extract, pExt_tuple, List.length_cons, List.length_nil, List.getD_cons_zero, List.getD_cons_succ, List.getD_cons_zero, List.getD_cons_succ, Nat.zero_add, Nat.reduceAdd, nxA, nxR]
    repeat (with_reducible refine And.intro ?_ ?_; · first | trivial | omega | (intro hg; simp only [Bool.and_eq_true, Bool.or_eq_true, Bool.not_eq_true', Bool.and_eq_false_iff, Bool.or_eq_false_iff, Bool.not_eq_false', decide_eq_true_eq, decide_eq_false_iff_not, eqNil] at hg; omega) )
    refine aOps_store (by rfl) (by rfl) (by repeat (first | exact AHeap.set_same _ _ _ | assumption | refine (AHeap.set_ne _ _ (by first | assumption | exact Ne.symm (by assumption))).trans ?_)) sz35 (by rfl) (by rfl) (by first | exact Nat.le_refl _ | decide | (simp; done) | (simp; omega)) (Nat.zero_le _) (by rfl) ?_
    simp only [AHeap.set_set, AVal.cells]
    simp (decide := true) only [aOps_nil, ev, putD, Slots.put, Slots.get, Slots.keep, if_true, if_false, true_and, ↓ap_assign, pop_assign, setAt, List.set_cons_zero, List.set_cons_succ, Nat.zero_add, Nat.reduceAdd]
    repeat (with_reducible refine And.intro ?_ ?_; · first | trivial | omega | (intro hg; simp only [Bool.and_eq_true, Bool.or_eq_true, Bool.not_eq_true', Bool.and_eq_false_iff, Bool.or_eq_false_iff, Bool.not_eq_false', decide_eq_true_eq, decide_eq_false_iff_not, eqNil] at hg; omega) )
    apply hK; clear hK K
    refine awp_ret ?_
    try simp only [thenA_ret]
    refine retA_ret h (by repeat (first | exact Sub.refl _ | assumption | refine Sub.trans_set ?_ (by assumption))) (?_) ?_
    · simp (decide := true) only [resPre, resV_tmp, resV_cell, Slots.get, if_true, if_false, and_true, resV_tmp, resV_cell, pLoad_agg ag35 sz35, rd_set, cellsAt, List.getD_cons_zero, List.getD_cons_succ, Nat.zero_add, Nat.reduceAdd, lv_bool, lv_int, lv_str, allLive, Bool.and_true, cellsAt, List.getD_cons_zero, List.getD_cons_succ, Nat.zero_add, Nat.reduceAdd, lv_bool, lv_int, lv_str, allLive, Bool.and_true]
    
    simp (decide := true) only [Slots.get, if_true, if_false, and_true, resOfG_three, resV_tmp, resV_cell, pLoad_agg ag35 sz35, rd_set, cellsAt, List.getD_cons_zero, List.getD_cons_succ, Nat.zero_add, Nat.reduceAdd, lv_bool, lv_int, lv_str, allLive, Bool.and_true, cellsAt, List.getD_cons_zero, List.getD_cons_succ, Nat.zero_add, Nat.reduceAdd, lv_bool, lv_int, lv_str, allLive, Bool.and_true, nxA, nxR]
    rw [hnx, if_pos hb1]
  · try simp only [Bool.not_eq_false', Bool.and_eq_false_iff] at hb1
    have hb1' : ¬ ((picE l).1 = true ∧ eqs = false) := by
      rintro ⟨q1, q2⟩
      rcases hb1 with z | z
      · rw [q1] at z; cases z
      · rw [q2] at z; cases z
    rw [hnx, if_neg hb1']
    refine awp_skip ?_
    change Awp _ _ _ _ _ _ _
    refine awp_seq ?_
    -- region 4  tokens.go:185
    refine awp_rseq [0, 2, 7] (by rfl) fun K hK => ?_
    simp (decide := true) only [ev, putD, Slots.put, Slots.get, if_true, if_false, true_and, ↓ap_move, pop_move]
    repeat (with_reducible refine And.intro ?_ ?_; · first | trivial | omega | (intro hg; simp only [Bool.and_eq_true, Bool.or_eq_true, Bool.not_eq_true', Bool.and_eq_false_iff, Bool.or_eq_false_iff, Bool.not_eq_false', decide_eq_true_eq, decide_eq_false_iff_not, eqNil] at hg; omega) )
    refine aOps_callV (V := .int .u8 (peekE s i).toNat) (by rfl) (by rfl) (c_peek0 w₀ _ kx lf s mv tv i ((by repeat (first | exact AHeap.set_same _ _ _ | assumption | refine (AHeap.set_ne _ _ (by first | assumption | exact Ne.symm (by assumption))).trans ?_))) (by omega)) ?_
    simp (decide := true) only [aOps_nil, ev, putD, Slots.put, Slots.get, Slots.keep, if_true, if_false, true_and, ↓ap_assign, pop_assign]
    repeat (with_reducible refine And.intro ?_ ?_; · first | trivial | omega | (intro hg; simp only [Bool.and_eq_true, Bool.or_eq_true, Bool.not_eq_true', Bool.and_eq_false_iff, Bool.or_eq_false_iff, Bool.not_eq_false', decide_eq_true_eq, decide_eq_false_iff_not, eqNil] at hg; omega) )
    apply hK; clear hK K
    refine awp_block ?_
    -- region 5  tokens.go:186
    refine awp_rseq [0, 2, 7, 39] (by rfl) fun K hK => ?_
    simp (decide := true) only [aOps_nil, ev, absV, absS, putD, Slots.put, Slots.get, Slots.keep, if_true, if_false, true_and, ↓ap_move, pop_move, ↓ap_binOp, pop_binOp, isNilC_int, cond_false, pBinX_int, pI_eql, ↓ap_assign, pop_assign]
    repeat (with_reducible refine And.intro ?_ ?_; · first | trivial | omega | (intro hg; simp only [Bool.and_eq_true, Bool.or_eq_true, Bool.not_eq_true', Bool.and_eq_false_iff, Bool.or_eq_false_iff, Bool.not_eq_false', decide_eq_true_eq, decide_eq_false_iff_not, eqNil] at hg; omega) )
    apply hK; clear hK K
    refine awp_cond (b := _) rfl (fun hb2 => ?_) (fun hb2 => ?_)
    · try simp only [decide_eq_true_eq] at hb2
      have hb2' : peekE s i = 34 := (u8_eq _ 34).mp hb2
      -- region 6  tokens.go:187
      refine awp_rseq [2, 3, 4] (by rfl) fun K hK => ?_
      simp (decide := true) only [ev, putD, Slots.put, Slots.get, if_true, if_false, true_and, ↓ap_move, pop_move]
      repeat (with_reducible refine And.intro ?_ ?_; · first | trivial | omega | (intro hg; simp only [Bool.and_eq_true, Bool.or_eq_true, Bool.not_eq_true', Bool.and_eq_false_iff, Bool.or_eq_false_iff, Bool.not_eq_false', decide_eq_true_eq, decide_eq_false_iff_not, eqNil] at hg; omega) )
      refine aOps_callV (V := nxR (quoteE s i)) (by rfl) (by rfl) (c_quote w₀ _ kx lf s mv tv i ((by repeat (first | exact AHeap.set_same _ _ _ | assumption | refine (AHeap.set_ne _ _ (by first | assumption | exact Ne.symm (by assumption))).trans ?_))) hi hs) ?_
      simp (decide := true) only [ev, putD, Slots.put, Slots.get, if_true, if_false, true_and, ↓ap_extract, pop_extract, pExt_tuple, List.length_cons, List.length_nil, List.getD_cons_zero, List.getD_cons_succ, List.getD_cons_zero, List.getD_cons_succ, Nat.zero_add, Nat.reduceAdd, nxA, nxR]
      repeat (with_reducible refine And.intro ?_ ?_; · first | trivial | omega | (intro hg; simp only [Bool.and_eq_true, Bool.or_eq_true, Bool.not_eq_true', Bool.and_eq_false_iff, Bool.or_eq_false_iff, Bool.not_eq_false', decide_eq_true_eq, decide_eq_false_iff_not, eqNil] at hg; omega) )
      refine aOps_store (by rfl) (by rfl) (by repeat (first | exact AHeap.set_same _ _ _ | assumption | refine (AHeap.set_ne _ _ (by first | assumption | exact Ne.symm (by assumption))).trans ?_)) sz35 (by rfl) (by rfl) (by first | exact Nat.le_refl _ | decide | (simp; done) | (simp; omega)) (Nat.zero_le _) (by rfl) ?_
      simp only [AHeap.set_set, AVal.cells]
      simp (decide := true) only [aOps_nil, ev, putD, Slots.put, Slots.get, Slots.keep, if_true, if_false, true_and, ↓ap_assign, pop_assign, setAt, List.set_cons_zero, List.set_cons_succ, Nat.zero_add, Nat.reduceAdd]
      repeat (with_reducible refine And.intro ?_ ?_; · first | trivial | omega | (intro hg; simp only [Bool.and_eq_true, Bool.or_eq_true, Bool.not_eq_true', Bool.and_eq_false_iff, Bool.or_eq_false_iff, Bool.not_eq_false', decide_eq_true_eq, decide_eq_false_iff_not, eqNil] at hg; omega) )
      apply hK; clear hK K
      refine awp_ret ?_
      try simp only [thenA_ret, inBlockA_ret]
      refine retA_ret h (by repeat (first | exact Sub.refl _ | assumption | refine Sub.trans_set ?_ (by assumption))) (?_) ?_
      · simp (decide := true) only [resPre, resV_tmp, resV_cell, Slots.get, if_true, if_false, and_true, resV_tmp, resV_cell, pLoad_agg ag35 sz35, rd_set, cellsAt, List.getD_cons_zero, List.getD_cons_succ, Nat.zero_add, Nat.reduceAdd, lv_bool, lv_int, lv_str, allLive, Bool.and_true, cellsAt, List.getD_cons_zero, List.getD_cons_succ, Nat.zero_add, Nat.reduceAdd, lv_bool, lv_int, lv_str, allLive, Bool.and_true]
      
      simp (decide := true) only [Slots.get, if_true, if_false, and_true, resOfG_three, resV_tmp, resV_cell, pLoad_agg ag35 sz35, rd_set, cellsAt, List.getD_cons_zero, List.getD_cons_succ, Nat.zero_add, Nat.reduceAdd, lv_bool, lv_int, lv_str, allLive, Bool.and_true, ne_eq, cellsAt, List.getD_cons_zero, List.getD_cons_succ, Nat.zero_add, Nat.reduceAdd, lv_bool, lv_int, lv_str, allLive, Bool.and_true, nxA, nxR, Tok.takeE]
      rw [if_pos hb2']
      try rfl
    · try simp only [decide_eq_false_iff_not] at hb2
      have hb2' : ¬ peekE s i = 34 := fun q => hb2 ((u8_eq _ 34).mpr q)
      rw [if_neg hb2']
      -- region 7  tokens.go:188
      refine awp_rseq [0, 2, 47] (by rfl) fun K hK => ?_
      simp (decide := true) only [ev, absV, absS, putD, Slots.put, Slots.get, if_true, if_false, true_and, ↓ap_move, pop_move, ↓ap_binOp, pop_binOp, isNilC_int, cond_false, pBinX_int, pI_eql, ↓ag_move, agP, agQ_some, nthDst, gKnown_bool, guardB_bool_true, implies_true]
      repeat (with_reducible refine And.intro ?_ ?_; · first | trivial | omega | (intro hg; simp only [Bool.and_eq_true, Bool.or_eq_true, Bool.not_eq_true', Bool.and_eq_false_iff, Bool.or_eq_false_iff, Bool.not_eq_false', decide_eq_true_eq, decide_eq_false_iff_not, eqNil] at hg; omega) )
      first
      | (refine aOps_yes (by rfl) ?_; refine aOps_callV (V := .int .u8 (peekE s (i + 1)).toNat) (by rfl) (by rfl) (c_peek w₀ _ kx lf s mv tv i 1 ((by repeat (first | exact AHeap.set_same _ _ _ | assumption | refine (AHeap.set_ne _ _ (by first | assumption | exact Ne.symm (by assumption))).trans ?_))) (by omega) (by omega) (by omega)) ?_)
      | (refine aOps_no (by rfl) (by rfl) ?_)
      | (refine aOps_gcall (V := .int .u8 (peekE s (i + 1)).toNat) (f := _) (cap := _) (xs := _) (by first | rfl | (simp (decide := true) only [gv, nthDst, Slots.get, if_true, if_false, gKnown_cond, gKnown_bool])) (fun hg => ⟨rfl, ?_⟩) (fun hg => c_peek w₀ _ kx lf s mv tv i 1 ((by repeat (first | exact AHeap.set_same _ _ _ | assumption | refine (AHeap.set_ne _ _ (by first | assumption | exact Ne.symm (by assumption))).trans ?_))) (by omega) (by omega) (by omega)) ?_; · (simp (decide := true) only [gv, nthDst, Slots.get, if_true, if_false, guardB_bool_true] at hg; simp (decide := true) only [evs, ev, Slots.get, if_true, if_false, hg, condV_true, List.append_nil, List.map_cons, List.map_nil, absV, absS] <;> try rfl))
      simp (decide := true) only [aOps_nil, ev, absV, absS, putD, Slots.put, Slots.get, Slots.keep, if_true, if_false, true_and, gv, nthDst, guardB_bool_true, ↓ag_binOp, pop_binOp, agP, agQ_some, gKnown_bool, implies_true, isNilC_int, cond_false, cv_binl, cp_binl, pBinX_int, pI_eql, ↓ap_pick, pop_pick, pPick_bool, pickV_cond_l, pickV_and, ↓ap_assign, pop_assign]
      repeat (with_reducible refine And.intro ?_ ?_; · first | trivial | omega | (intro hg; simp only [Bool.and_eq_true, Bool.or_eq_true, Bool.not_eq_true', Bool.and_eq_false_iff, Bool.or_eq_false_iff, Bool.not_eq_false', decide_eq_true_eq, decide_eq_false_iff_not, eqNil] at hg; omega) )
      apply hK; clear hK K
      refine awp_cond (b := _) rfl (fun hb3 => ?_) (fun hb3 => ?_)
      · try simp only [decide_eq_true_eq, Bool.and_eq_true] at hb3
        have hb3' : peekE s i = 46 ∧ peekE s (i + 1) = 32 := ⟨(u8_eq _ 46).mp hb3.1, (u8_eq _ 32).mp hb3.2⟩
        -- region 8  tokens.go:189
        refine awp_rseq [2, 3, 4] (by rfl) fun K hK => ?_
        simp (decide := true) only [ev, putD, Slots.put, Slots.get, if_true, if_false, true_and, ↓ap_move, pop_move]
        repeat (with_reducible refine And.intro ?_ ?_; · first | trivial | omega | (intro hg; simp only [Bool.and_eq_true, Bool.or_eq_true, Bool.not_eq_true', Bool.and_eq_false_iff, Bool.or_eq_false_iff, Bool.not_eq_false', decide_eq_true_eq, decide_eq_false_iff_not, eqNil] at hg; omega) )
        refine aOps_callV (V := nxR (Tok.takeE s i 6 1)) (by rfl) (by rfl) (c_takeT w₀ _ kx lf s mv tv i 1 6 ((by repeat (first | exact AHeap.set_same _ _ _ | assumption | refine (AHeap.set_ne _ _ (by first | assumption | exact Ne.symm (by assumption))).trans ?_))) (by omega) hs) ?_
        simp (decide := true) only [ev, putD, Slots.put, Slots.get, if_true, if_false, true_and, ↓ap_extract, pop_extract, pExt_tuple, List.length_cons, List.length_nil, List.getD_cons_zero, List.getD_cons_succ, List.getD_cons_zero, List.getD_cons_succ, Nat.zero_add, Nat.reduceAdd, nxA, nxR, Tok.takeE]
        repeat (with_reducible refine And.intro ?_ ?_; · first | trivial | omega | (intro hg; simp only [Bool.and_eq_true, Bool.or_eq_true, Bool.not_eq_true', Bool.and_eq_false_iff, Bool.or_eq_false_iff, Bool.not_eq_false', decide_eq_true_eq, decide_eq_false_iff_not, eqNil] at hg; omega) )
        refine aOps_store (by rfl) (by rfl) (by repeat (first | exact AHeap.set_same _ _ _ | assumption | refine (AHeap.set_ne _ _ (by first | assumption | exact Ne.symm (by assumption))).trans ?_)) sz35 (by rfl) (by rfl) (by first | exact Nat.le_refl _ | decide | (simp; done) | (simp; omega)) (Nat.zero_le _) (by rfl) ?_
        simp only [AHeap.set_set, AVal.cells]
        simp (decide := true) only [aOps_nil, ev, putD, Slots.put, Slots.get, Slots.keep, if_true, if_false, true_and, ↓ap_assign, pop_assign, setAt, List.set_cons_zero, List.set_cons_succ, Nat.zero_add, Nat.reduceAdd]
        repeat (with_reducible refine And.intro ?_ ?_; · first | trivial | omega | (intro hg; simp only [Bool.and_eq_true, Bool.or_eq_true, Bool.not_eq_true', Bool.and_eq_false_iff, Bool.or_eq_false_iff, Bool.not_eq_false', decide_eq_true_eq, decide_eq_false_iff_not, eqNil] at hg; omega) )
        apply hK; clear hK K
        refine awp_ret ?_
        try simp only [thenA_ret, inBlockA_ret]
        refine retA_ret h (by repeat (first | exact Sub.refl _ | assumption | refine Sub.trans_set ?_ (by assumption))) (?_) ?_
        · simp (decide := true) only [resPre, resV_tmp, resV_cell, Slots.get, if_true, if_false, and_true, resV_tmp, resV_cell, pLoad_agg ag35 sz35, rd_set, cellsAt, List.getD_cons_zero, List.getD_cons_succ, Nat.zero_add, Nat.reduceAdd, lv_bool, lv_int, lv_str, allLive, Bool.and_true, cellsAt, List.getD_cons_zero, List.getD_cons_succ, Nat.zero_add, Nat.reduceAdd, lv_bool, lv_int, lv_str, allLive, Bool.and_true]
        
        simp (decide := true) only [Slots.get, if_true, if_false, and_true, resOfG_three, resV_tmp, resV_cell, pLoad_agg ag35 sz35, rd_set, cellsAt, List.getD_cons_zero, List.getD_cons_succ, Nat.zero_add, Nat.reduceAdd, lv_bool, lv_int, lv_str, allLive, Bool.and_true, ne_eq, cellsAt, List.getD_cons_zero, List.getD_cons_succ, Nat.zero_add, Nat.reduceAdd, lv_bool, lv_int, lv_str, allLive, Bool.and_true, nxA, nxR, Tok.takeE]
        rw [if_pos hb3']
        try rfl
      · try simp only [decide_eq_false_iff_not, Bool.and_eq_false_iff] at hb3
        have hb3' : ¬ (peekE s i = 46 ∧ peekE s (i + 1) = 32) := fun q => by
          rcases hb3 with z | z
          · exact z ((u8_eq _ 46).mpr q.1)
          · exact z ((u8_eq _ 32).mpr q.2)
        rw [if_neg hb3']
        -- region 9  tokens.go:190
        refine awp_dseq_any [0, 2, 60] mixed (by kernel_rfl) (by rfl) fun K hK => ?_
        simp (decide := true) only [ev, putD, Slots.put, Slots.get, if_true, if_false, true_and, ↓vp_move, pop_move, ↓vp_nilCheck, pop_nilCheck, pNil_ptr, ↓vp_fieldAddr, pop_fieldAddr, fa71_0, fa68_1, ↓vp_load, pop_load, pLoad_one ag9, fa71_1, pLoad_one ag3, ↓vp_slice, pop_slice, evO, pSliceS_i0 Tryd.underlying9, pSliceS, bndA_none, bndA_int, rd_ne', ne_eq, not_false_eq_true, ne_0q0_x.symm, rd_own w₀ eb_x, List.getD_cons_zero, List.getD_cons_succ, Nat.zero_add, lv_int, lv_str, hdr]
        repeat (with_reducible refine And.intro ?_ ?_; · first | trivial | omega | (intro hg; simp only [Bool.and_eq_true, Bool.or_eq_true, Bool.not_eq_true', Bool.and_eq_false_iff, Bool.or_eq_false_iff, Bool.not_eq_false', decide_eq_true_eq, decide_eq_false_iff_not, eqNil] at hg; omega) )
        refine vOps_callV (V := .bool eqs) (by rfl) (by rfl) (by rw [heqs]; exact c_pref w₀ _ (s.drop i) [61, 61]) ?_
        simp (decide := true) only [vOps_nil, ev, putD, Slots.put, Slots.get, Slots.keep, if_true, if_false, true_and, ↓vp_assign, pop_assign]
        repeat (with_reducible refine And.intro ?_ ?_; · first | trivial | omega | (intro hg; simp only [Bool.and_eq_true, Bool.or_eq_true, Bool.not_eq_true', Bool.and_eq_false_iff, Bool.or_eq_false_iff, Bool.not_eq_false', decide_eq_true_eq, decide_eq_false_iff_not, eqNil] at hg; omega) )
        apply hK; clear hK K
        refine awp_cond (b := _) rfl (fun hb4 => ?_) (fun hb4 => ?_)
        · try simp only [decide_eq_true_eq, decide_eq_false_iff_not, Bool.not_eq_true', Bool.not_eq_false', Bool.and_eq_true, Bool.and_eq_false_iff, Bool.or_eq_true, Bool.or_eq_false_iff, Bool.true_eq, Bool.false_eq, reduceCtorEq] at hb4
          have h2 : i + 2 ≤ s.length := by
            rw [hb4] at heqs
            have := (List.isPrefixOf_iff_prefix.1 heqs.symm).length_le
            rw [List.length_drop] at this
            simp at this
            omega
          -- region 10  tokens.go:191
          refine awp_rseq [2, 3, 4] (by rfl) fun K hK => ?_
          simp (decide := true) only [ev, putD, Slots.put, Slots.get, if_true, if_false, true_and, ↓ap_move, pop_move]
          repeat (with_reducible refine And.intro ?_ ?_; · first | trivial | omega | (intro hg; simp only [Bool.and_eq_true, Bool.or_eq_true, Bool.not_eq_true', Bool.and_eq_false_iff, Bool.or_eq_false_iff, Bool.not_eq_false', decide_eq_true_eq, decide_eq_false_iff_not, eqNil] at hg; omega) )
          refine aOps_callV (V := nxR (Tok.takeE s i 7 2)) (by rfl) (by rfl) (c_takeT w₀ _ kx lf s mv tv i 2 7 ((by repeat (first | exact AHeap.set_same _ _ _ | assumption | refine (AHeap.set_ne _ _ (by first | assumption | exact Ne.symm (by assumption))).trans ?_))) h2 hs) ?_
          simp (decide := true) only [ev, putD, Slots.put, Slots.get, if_true, if_false, true_and, ↓ap_extract, pop_extract, pExt_tuple, List.length_cons, List.length_nil, List.getD_cons_zero, List.getD_cons_succ, List.getD_cons_zero, List.getD_cons_succ, Nat.zero_add, Nat.reduceAdd, nxA, nxR, Tok.takeE]
          repeat (with_reducible refine And.intro ?_ ?_; · first | trivial | omega | (intro hg; simp only [Bool.and_eq_true, Bool.or_eq_true, Bool.not_eq_true', Bool.and_eq_false_iff, Bool.or_eq_false_iff, Bool.not_eq_false', decide_eq_true_eq, decide_eq_false_iff_not, eqNil] at hg; omega) )
          refine aOps_store (by rfl) (by rfl) (by repeat (first | exact AHeap.set_same _ _ _ | assumption | refine (AHeap.set_ne _ _ (by first | assumption | exact Ne.symm (by assumption))).trans ?_)) sz35 (by rfl) (by rfl) (by first | exact Nat.le_refl _ | decide | (simp; done) | (simp; omega)) (Nat.zero_le _) (by rfl) ?_
          simp only [AHeap.set_set, AVal.cells]
          simp (decide := true) only [aOps_nil, ev, putD, Slots.put, Slots.get, Slots.keep, if_true, if_false, true_and, ↓ap_assign, pop_assign, setAt, List.set_cons_zero, List.set_cons_succ, Nat.zero_add, Nat.reduceAdd]
          repeat (with_reducible refine And.intro ?_ ?_; · first | trivial | omega | (intro hg; simp only [Bool.and_eq_true, Bool.or_eq_true, Bool.not_eq_true', Bool.and_eq_false_iff, Bool.or_eq_false_iff, Bool.not_eq_false', decide_eq_true_eq, decide_eq_false_iff_not, eqNil] at hg; omega) )
          apply hK; clear hK K
          refine awp_ret ?_
          try simp only [thenA_ret, inBlockA_ret]
          refine retA_ret h (by repeat (first | exact Sub.refl _ | assumption | refine Sub.trans_set ?_ (by assumption))) (?_) ?_
          · simp (decide := true) only [resPre, resV_tmp, resV_cell, Slots.get, if_true, if_false, and_true, resV_tmp, resV_cell, pLoad_agg ag35 sz35, rd_set, cellsAt, List.getD_cons_zero, List.getD_cons_succ, Nat.zero_add, Nat.reduceAdd, lv_bool, lv_int, lv_str, allLive, Bool.and_true, cellsAt, List.getD_cons_zero, List.getD_cons_succ, Nat.zero_add, Nat.reduceAdd, lv_bool, lv_int, lv_str, allLive, Bool.and_true]
          
          simp (decide := true) only [Slots.get, if_true, if_false, and_true, resOfG_three, resV_tmp, resV_cell, pLoad_agg ag35 sz35, rd_set, cellsAt, List.getD_cons_zero, List.getD_cons_succ, Nat.zero_add, Nat.reduceAdd, lv_bool, lv_int, lv_str, allLive, Bool.and_true, ne_eq, cellsAt, List.getD_cons_zero, List.getD_cons_succ, Nat.zero_add, Nat.reduceAdd, lv_bool, lv_int, lv_str, allLive, Bool.and_true, nxA, nxR, Tok.takeE]
          rw [if_pos hb4]
          try rfl
        · try simp only [decide_eq_true_eq, decide_eq_false_iff_not, Bool.not_eq_true', Bool.not_eq_false', Bool.and_eq_true, Bool.and_eq_false_iff, Bool.or_eq_true, Bool.or_eq_false_iff, Bool.true_eq, Bool.false_eq, reduceCtorEq] at hb4
          have hb4' : ¬ eqs = true := by rw [hb4]; decide
          rw [if_neg hb4']
          refine awp_skip ?_
          change Awp _ _ _ _ _ _ _
          refine awp_seq ?_
          -- region 11  tokens.go:193
          refine awp_rseq [0, 2, 8, 9, 10] (by rfl) fun K hK => ?_
          simp (decide := true) only [ev, putD, Slots.put, Slots.get, if_true, if_false, true_and, ↓ap_move, pop_move]
          repeat (with_reducible refine And.intro ?_ ?_; · first | trivial | omega | (intro hg; simp only [Bool.and_eq_true, Bool.or_eq_true, Bool.not_eq_true', Bool.and_eq_false_iff, Bool.or_eq_false_iff, Bool.not_eq_false', decide_eq_true_eq, decide_eq_false_iff_not, eqNil] at hg; omega) )
          refine aOps_callV (V := nxR (numberE s i)) (by rfl) (by rfl) (c_number w₀ _ kx lf s mv tv i ((by repeat (first | exact AHeap.set_same _ _ _ | assumption | refine (AHeap.set_ne _ _ (by first | assumption | exact Ne.symm (by assumption))).trans ?_))) hi hs) ?_
          simp (decide := true) only [ev, putD, Slots.put, Slots.get, if_true, if_false, true_and, ↓ap_move, pop_move, ↓ap_extract, pop_extract, pExt_tuple, List.length_cons, List.length_nil, List.getD_cons_zero, List.getD_cons_succ, List.getD_cons_zero, List.getD_cons_succ, Nat.zero_add, Nat.reduceAdd, nxA, nxR]
          repeat (with_reducible refine And.intro ?_ ?_; · first | trivial | omega | (intro hg; simp only [Bool.and_eq_true, Bool.or_eq_true, Bool.not_eq_true', Bool.and_eq_false_iff, Bool.or_eq_false_iff, Bool.not_eq_false', decide_eq_true_eq, decide_eq_false_iff_not, eqNil] at hg; omega) )
          refine aOps_alloc ze35 (cs := [.int .u8 0, .str [], .int .i64 0, .int .i64 0, .bool false]) (by rfl) fun k11q6 hk11q6 => ?_
          have ne_11q6_0q0 : k11q6 ≠ k0q0 := by simp only [AHeap.set_none] at hk11q6; simp only [hk11q6, ne_eq, not_false_eq_true]
          have hn_11q6 : h k11q6 = none := by first | assumption | (simp only [AHeap.set_none] at hk11q6; simp only [hk11q6])
          have hf_11q6 : h k11q6 = none := Sub.none hs_h hn_11q6
          have ne_11q6_x : k11q6 ≠ kx := AHeap.ne_some hn_11q6 eb_x
          refine aOps_store (by rfl) (by rfl) (by repeat (first | exact AHeap.set_same _ _ _ | assumption | refine (AHeap.set_ne _ _ (by first | assumption | exact Ne.symm (by assumption))).trans ?_)) sz35 (by rfl) (by rfl) (by first | exact Nat.le_refl _ | decide | (simp; done) | (simp; omega)) (Nat.zero_le _) (by rfl) ?_
          simp only [AHeap.set_set, AVal.cells]
          simp (decide := true) only [aOps_nil, ev, putD, Slots.put, Slots.get, Slots.keep, if_true, if_false, true_and, ↓ap_assign, pop_assign, setAt, List.set_cons_zero, List.set_cons_succ, Nat.zero_add, Nat.reduceAdd]
          repeat (with_reducible refine And.intro ?_ ?_; · first | trivial | omega | (intro hg; simp only [Bool.and_eq_true, Bool.or_eq_true, Bool.not_eq_true', Bool.and_eq_false_iff, Bool.or_eq_false_iff, Bool.not_eq_false', decide_eq_true_eq, decide_eq_false_iff_not, eqNil] at hg; omega) )
          apply hK; clear hK K
          -- region 12  tokens.go:193
          refine awp_rseq [0, 2, 8, 9, 10, 88] (by rfl) fun K hK => ?_
          simp (decide := true) only [aOps_nil, ev, absV, absS, putD, Slots.put, Slots.get, Slots.keep, if_true, if_false, true_and, ↓ap_move, pop_move, ↓ap_binOp, pop_binOp, isNilC_int, cond_false, pBinX_int, pI_gtr, ↓ag_move, agP, agQ_some, nthDst, gKnown_bool, guardB_bool_false, implies_true, ↓ag_binOp, cv_binl, cp_binl, pI_neq, ↓ap_pick, pop_pick, pPick_bool, pickV_cond_r, pickV_or]
          repeat (with_reducible refine And.intro ?_ ?_; · first | trivial | omega | (intro hg; simp only [Bool.and_eq_true, Bool.or_eq_true, Bool.not_eq_true', Bool.and_eq_false_iff, Bool.or_eq_false_iff, Bool.not_eq_false', decide_eq_true_eq, decide_eq_false_iff_not, eqNil] at hg; omega) )
          apply hK; clear hK K
          refine awp_cond (b := _) rfl (fun hb5 => ?_) (fun hb5 => ?_)
          · try simp only [decide_eq_true_eq, decide_eq_false_iff_not, Bool.not_eq_true', Bool.or_eq_true] at hb5
            have hb5' : 0 < (numberE s i).n ∨ (numberE s i).e ≠ 0 := hb5.imp (fun q => by omega) id
            -- region 13  tokens.go:194
            refine awp_rseq [2, 3, 4] (by rfl) fun K hK => ?_
            simp (decide := true) only [ev, putD, Slots.put, Slots.get, if_true, if_false, true_and, ↓ap_loadL, apL_mk, pLoad_agg ag35 sz35, ↓ap_move, pop_move, rd_any, cellsAt, List.getD_cons_zero, List.getD_cons_succ, Nat.zero_add, Nat.reduceAdd, lv_bool, lv_int, lv_str, allLive, Bool.and_true]
            repeat (with_reducible refine And.intro ?_ ?_; · first | trivial | omega | (intro hg; simp only [Bool.and_eq_true, Bool.or_eq_true, Bool.not_eq_true', Bool.and_eq_false_iff, Bool.or_eq_false_iff, Bool.not_eq_false', decide_eq_true_eq, decide_eq_false_iff_not, eqNil] at hg; omega) )
            refine aOps_store (by rfl) (by rfl) (by repeat (first | exact AHeap.set_same _ _ _ | assumption | refine (AHeap.set_ne _ _ (by first | assumption | exact Ne.symm (by assumption))).trans ?_)) sz35 (by rfl) (by rfl) (by first | exact Nat.le_refl _ | decide | (simp; done) | (simp; omega)) (Nat.zero_le _) (by rfl) ?_
            simp only [AVal.cells]
            simp (decide := true) only [aOps_nil, ev, putD, Slots.put, Slots.get, Slots.keep, if_true, if_false, true_and, ↓ap_assign, pop_assign, setAt, List.set_cons_zero, List.set_cons_succ, Nat.zero_add, Nat.reduceAdd]
            repeat (with_reducible refine And.intro ?_ ?_; · first | trivial | omega | (intro hg; simp only [Bool.and_eq_true, Bool.or_eq_true, Bool.not_eq_true', Bool.and_eq_false_iff, Bool.or_eq_false_iff, Bool.not_eq_false', decide_eq_true_eq, decide_eq_false_iff_not, eqNil] at hg; omega) )
            apply hK; clear hK K
            refine awp_ret ?_
            try simp only [thenA_ret]
            refine retA_ret h (by repeat (first | exact Sub.refl _ | assumption | refine Sub.trans_set ?_ (by assumption))) (?_) ?_
            · simp (decide := true) only [resPre, resV_tmp, resV_cell, Slots.get, if_true, if_false, and_true, resV_tmp, resV_cell, pLoad_agg ag35 sz35, rd_set, cellsAt, List.getD_cons_zero, List.getD_cons_succ, Nat.zero_add, Nat.reduceAdd, lv_bool, lv_int, lv_str, allLive, Bool.and_true, cellsAt, List.getD_cons_zero, List.getD_cons_succ, Nat.zero_add, Nat.reduceAdd, lv_bool, lv_int, lv_str, allLive, Bool.and_true]
            
            simp (decide := true) only [Slots.get, if_true, if_false, and_true, resOfG_three, resV_tmp, resV_cell, pLoad_agg ag35 sz35, rd_set, cellsAt, List.getD_cons_zero, List.getD_cons_succ, Nat.zero_add, Nat.reduceAdd, lv_bool, lv_int, lv_str, allLive, Bool.and_true, ne_eq, cellsAt, List.getD_cons_zero, List.getD_cons_succ, Nat.zero_add, Nat.reduceAdd, lv_bool, lv_int, lv_str, allLive, Bool.and_true, nxA, nxR]
            rw [if_pos hb5']
            try rfl
          · try simp only [decide_eq_true_eq, decide_eq_false_iff_not, Bool.not_eq_false', Bool.or_eq_false_iff] at hb5
            have hb5' : ¬ (0 < (numberE s i).n ∨ (numberE s i).e ≠ 0) := fun q => q.elim (fun q => hb5.1 (by omega)) (fun q => q hb5.2)
            rw [if_neg hb5']
            refine awp_skip ?_
            change Awp _ _ _ _ _ _ _
            refine awp_seq ?_
            -- region 14  tokens.go:196
            refine awp_rseq [0, 2, 99] (by rfl) fun K hK => ?_
            simp (decide := true) only [ev, putD, Slots.put, Slots.get, if_true, if_false, true_and, ↓ap_move, pop_move]
            repeat (with_reducible refine And.intro ?_ ?_; · first | trivial | omega | (intro hg; simp only [Bool.and_eq_true, Bool.or_eq_true, Bool.not_eq_true', Bool.and_eq_false_iff, Bool.or_eq_false_iff, Bool.not_eq_false', decide_eq_true_eq, decide_eq_false_iff_not, eqNil] at hg; omega) )
            refine aOps_callV (V := .int .u8 (peekE s i).toNat) (by rfl) (by rfl) (c_peek0 w₀ _ kx lf s mv tv i ((by repeat (first | exact AHeap.set_same _ _ _ | assumption | refine (AHeap.set_ne _ _ (by first | assumption | exact Ne.symm (by assumption))).trans ?_))) (by omega)) ?_
            refine aOps_callV (V := .bool (wordyB (peekE s i))) (by rfl) (by rfl) (c_wordy w₀ _ _) ?_
            simp (decide := true) only [ev, putD, Slots.put, Slots.get, if_true, if_false, true_and, ↓ap_move, pop_move, ↓ag_move, agP, agQ_some, nthDst, gKnown_bool, guardB_bool_true, implies_true]
            repeat (with_reducible refine And.intro ?_ ?_; · first | trivial | omega | (intro hg; simp only [Bool.and_eq_true, Bool.or_eq_true, Bool.not_eq_true', Bool.and_eq_false_iff, Bool.or_eq_false_iff, Bool.not_eq_false', decide_eq_true_eq, decide_eq_false_iff_not, eqNil] at hg; omega) )
            first
            | (refine aOps_yes (by rfl) ?_; refine aOps_callV (V := .int .u8 (peekE s i).toNat) (by rfl) (by rfl) (c_peek0 w₀ _ kx lf s mv tv i ((by repeat (first | exact AHeap.set_same _ _ _ | assumption | refine (AHeap.set_ne _ _ (by first | assumption | exact Ne.symm (by assumption))).trans ?_))) (by omega)) ?_)
            | (refine aOps_no (by rfl) (by rfl) ?_)
            | (refine aOps_gcall (V := .int .u8 (peekE s i).toNat) (f := _) (cap := _) (xs := _) (by first | rfl | (simp (decide := true) only [gv, nthDst, Slots.get, if_true, if_false, gKnown_cond, gKnown_bool])) (fun hg => ⟨rfl, ?_⟩) (fun hg => c_peek0 w₀ _ kx lf s mv tv i ((by repeat (first | exact AHeap.set_same _ _ _ | assumption | refine (AHeap.set_ne _ _ (by first | assumption | exact Ne.symm (by assumption))).trans ?_))) (by omega)) ?_; · (simp (decide := true) only [gv, nthDst, Slots.get, if_true, if_false, guardB_bool_true] at hg; simp (decide := true) only [evs, ev, Slots.get, if_true, if_false, hg, condV_true, List.append_nil, List.map_cons, List.map_nil, absV, absS] <;> try rfl))
            simp (decide := true) only [aOps_nil, ev, absV, absS, putD, Slots.put, Slots.get, Slots.keep, if_true, if_false, true_and, gv, nthDst, guardB_bool_true, ↓ag_binOp, pop_binOp, agP, agQ_some, gKnown_bool, implies_true, isNilC_int, cond_false, cv_binl, cp_binl, pBinX_int, pI_neq, ↓ap_pick, pop_pick, pPick_bool, pickV_cond_l, pickV_and]
            repeat (with_reducible refine And.intro ?_ ?_; · first | trivial | omega | (intro hg; simp only [Bool.and_eq_true, Bool.or_eq_true, Bool.not_eq_true', Bool.and_eq_false_iff, Bool.or_eq_false_iff, Bool.not_eq_false', decide_eq_true_eq, decide_eq_false_iff_not, eqNil] at hg; omega) )
            apply hK; clear hK K
            refine awp_cond (b := _) rfl (fun hb6 => ?_) (fun hb6 => ?_)
            · try simp only [decide_eq_false_iff_not, Bool.not_eq_true', Bool.and_eq_true] at hb6
              have hb6' : wordyB (peekE s i) = true ∧ peekE s i ≠ 45 := ⟨hb6.1, fun q => hb6.2 ((u8_eq _ 45).mpr q)⟩
              -- region 15  tokens.go:197
              refine awp_rseq [2, 3, 4] (by rfl) fun K hK => ?_
              simp (decide := true) only [ev, putD, Slots.put, Slots.get, if_true, if_false, true_and, ↓ap_move, pop_move]
              repeat (with_reducible refine And.intro ?_ ?_; · first | trivial | omega | (intro hg; simp only [Bool.and_eq_true, Bool.or_eq_true, Bool.not_eq_true', Bool.and_eq_false_iff, Bool.or_eq_false_iff, Bool.not_eq_false', decide_eq_true_eq, decide_eq_false_iff_not, eqNil] at hg; omega) )
              refine aOps_callV (V := nxR (nameE s i)) (by rfl) (by rfl) (c_name w₀ _ kx lf s mv tv i ((by repeat (first | exact AHeap.set_same _ _ _ | assumption | refine (AHeap.set_ne _ _ (by first | assumption | exact Ne.symm (by assumption))).trans ?_))) hi (by rw [← peekE_lt hi]; exact hb6.1) hs) ?_
              simp (decide := true) only [ev, putD, Slots.put, Slots.get, if_true, if_false, true_and, ↓ap_extract, pop_extract, pExt_tuple, List.length_cons, List.length_nil, List.getD_cons_zero, List.getD_cons_succ, List.getD_cons_zero, List.getD_cons_succ, Nat.zero_add, Nat.reduceAdd, nxA, nxR]
              repeat (with_reducible refine And.intro ?_ ?_; · first | trivial | omega | (intro hg; simp only [Bool.and_eq_true, Bool.or_eq_true, Bool.not_eq_true', Bool.and_eq_false_iff, Bool.or_eq_false_iff, Bool.not_eq_false', decide_eq_true_eq, decide_eq_false_iff_not, eqNil] at hg; omega) )
              refine aOps_store (by rfl) (by rfl) (by repeat (first | exact AHeap.set_same _ _ _ | assumption | refine (AHeap.set_ne _ _ (by first | assumption | exact Ne.symm (by assumption))).trans ?_)) sz35 (by rfl) (by rfl) (by first | exact Nat.le_refl _ | decide | (simp; done) | (simp; omega)) (Nat.zero_le _) (by rfl) ?_
              simp only [AVal.cells]
              simp (decide := true) only [aOps_nil, ev, putD, Slots.put, Slots.get, Slots.keep, if_true, if_false, true_and, ↓ap_assign, pop_assign, setAt, List.set_cons_zero, List.set_cons_succ, Nat.zero_add, Nat.reduceAdd]
              repeat (with_reducible refine And.intro ?_ ?_; · first | trivial | omega | (intro hg; simp only [Bool.and_eq_true, Bool.or_eq_true, Bool.not_eq_true', Bool.and_eq_false_iff, Bool.or_eq_false_iff, Bool.not_eq_false', decide_eq_true_eq, decide_eq_false_iff_not, eqNil] at hg; omega) )
              apply hK; clear hK K
              refine awp_ret ?_
              try simp only [thenA_ret]
              refine retA_ret h (by repeat (first | exact Sub.refl _ | assumption | refine Sub.trans_set ?_ (by assumption))) (?_) ?_
              · simp (decide := true) only [resPre, resV_tmp, resV_cell, Slots.get, if_true, if_false, and_true, resV_tmp, resV_cell, pLoad_agg ag35 sz35, rd_set, cellsAt, List.getD_cons_zero, List.getD_cons_succ, Nat.zero_add, Nat.reduceAdd, lv_bool, lv_int, lv_str, allLive, Bool.and_true, cellsAt, List.getD_cons_zero, List.getD_cons_succ, Nat.zero_add, Nat.reduceAdd, lv_bool, lv_int, lv_str, allLive, Bool.and_true]
              
              simp (decide := true) only [Slots.get, if_true, if_false, and_true, resOfG_three, resV_tmp, resV_cell, pLoad_agg ag35 sz35, rd_set, cellsAt, List.getD_cons_zero, List.getD_cons_succ, Nat.zero_add, Nat.reduceAdd, lv_bool, lv_int, lv_str, allLive, Bool.and_true, ne_eq, cellsAt, List.getD_cons_zero, List.getD_cons_succ, Nat.zero_add, Nat.reduceAdd, lv_bool, lv_int, lv_str, allLive, Bool.and_true, nxA, nxR]
              rw [if_pos hb6']
              try rfl
            · try simp only [decide_eq_true_eq, Bool.not_eq_false', Bool.and_eq_false_iff] at hb6
              have hb6' : ¬ (wordyB (peekE s i) = true ∧ peekE s i ≠ 45) := fun q => by
                rcases hb6 with z | z
                · rw [q.1] at z; cases z
                · exact q.2 ((u8_eq _ 45).mp z)
              rw [if_neg hb6']
              refine awp_skip ?_
              change Awp _ _ _ _ _ _ _
              -- region 16  tokens.go:199
              refine awp_rseq [2, 3, 4] (by rfl) fun K hK => ?_
              simp (decide := true) only [ev, putD, Slots.put, Slots.get, if_true, if_false, true_and, ↓ap_move, pop_move]
              repeat (with_reducible refine And.intro ?_ ?_; · first | trivial | omega | (intro hg; simp only [Bool.and_eq_true, Bool.or_eq_true, Bool.not_eq_true', Bool.and_eq_false_iff, Bool.or_eq_false_iff, Bool.not_eq_false', decide_eq_true_eq, decide_eq_false_iff_not, eqNil] at hg; omega) )
              refine aOps_callV (V := nxR (signE s i)) (by rfl) (by rfl) (c_sign w₀ _ kx lf s mv tv i ((by repeat (first | exact AHeap.set_same _ _ _ | assumption | refine (AHeap.set_ne _ _ (by first | assumption | exact Ne.symm (by assumption))).trans ?_))) hi hs) ?_
              simp (decide := true) only [ev, putD, Slots.put, Slots.get, if_true, if_false, true_and, ↓ap_extract, pop_extract, pExt_tuple, List.length_cons, List.length_nil, List.getD_cons_zero, List.getD_cons_succ, List.getD_cons_zero, List.getD_cons_succ, Nat.zero_add, Nat.reduceAdd, nxA, nxR]
              repeat (with_reducible refine And.intro ?_ ?_; · first | trivial | omega | (intro hg; simp only [Bool.and_eq_true, Bool.or_eq_true, Bool.not_eq_true', Bool.and_eq_false_iff, Bool.or_eq_false_iff, Bool.not_eq_false', decide_eq_true_eq, decide_eq_false_iff_not, eqNil] at hg; omega) )
              refine aOps_store (by rfl) (by rfl) (by repeat (first | exact AHeap.set_same _ _ _ | assumption | refine (AHeap.set_ne _ _ (by first | assumption | exact Ne.symm (by assumption))).trans ?_)) sz35 (by rfl) (by rfl) (by first | exact Nat.le_refl _ | decide | (simp; done) | (simp; omega)) (Nat.zero_le _) (by rfl) ?_
              simp only [AVal.cells]
              simp (decide := true) only [aOps_nil, ev, putD, Slots.put, Slots.get, Slots.keep, if_true, if_false, true_and, ↓ap_assign, pop_assign, setAt, List.set_cons_zero, List.set_cons_succ, Nat.zero_add, Nat.reduceAdd]
              repeat (with_reducible refine And.intro ?_ ?_; · first | trivial | omega | (intro hg; simp only [Bool.and_eq_true, Bool.or_eq_true, Bool.not_eq_true', Bool.and_eq_false_iff, Bool.or_eq_false_iff, Bool.not_eq_false', decide_eq_true_eq, decide_eq_false_iff_not, eqNil] at hg; omega) )
              apply hK; clear hK K
              refine awp_ret ?_
              try simp only [thenA_ret, inBlockA_ret]
              refine retA_ret h (by repeat (first | exact Sub.refl _ | assumption | refine Sub.trans_set ?_ (by assumption))) (?_) ?_
              · simp (decide := true) only [resPre, resV_tmp, resV_cell, Slots.get, if_true, if_false, and_true, resV_tmp, resV_cell, pLoad_agg ag35 sz35, rd_set, cellsAt, List.getD_cons_zero, List.getD_cons_succ, Nat.zero_add, Nat.reduceAdd, lv_bool, lv_int, lv_str, allLive, Bool.and_true, cellsAt, List.getD_cons_zero, List.getD_cons_succ, Nat.zero_add, Nat.reduceAdd, lv_bool, lv_int, lv_str, allLive, Bool.and_true]
              
              simp (decide := true) only [Slots.get, if_true, if_false, and_true, resOfG_three, resV_tmp, resV_cell, pLoad_agg ag35 sz35, rd_set, cellsAt, List.getD_cons_zero, List.getD_cons_succ, Nat.zero_add, Nat.reduceAdd, lv_bool, lv_int, lv_str, allLive, Bool.and_true, cellsAt, List.getD_cons_zero, List.getD_cons_succ, Nat.zero_add, Nat.reduceAdd, lv_bool, lv_int, lv_str, allLive, Bool.and_true, nxA, nxR]
              try rfl
end Go.Proofs.YtmadddihphkmoaaDoor

/-
  Contracts: the reader of the package columns: take.
  Conditions: none.
-/
namespace Go.Proofs.YtmadddihphkmoaaDoor
open Go.AM
open Go.Proofs
open Go.Col
set_option maxRecDepth 100000

def rdCells (cb : Option Buf) (x : Rd) : List AVal := [bufV 3 cb, .int .i64 x.line, .int .i64 x.col, .bool x.odd]
/-- The reader's heap: its struct, its cards, the marks of the last card; all else lies in B (the marks of the other cards in M). -/
def rdH (kx : Nat) (B : AHeap) (cb mb : Option Buf) (x : Rd) : AHeap := bufH (bufH (B.set kx ⟨rdCells cb x, 0⟩) cb) mb
def cell3 (p : CardC × AVal) : List AVal := [.bool p.1.left, .str p.1.text, p.2]
structure RdInv (w₀ : World) (h : AHeap) (kx : Nat) (B M : AHeap) (cb mb : Option Buf) (x : Rd) : Prop where
  sub : Sub h B
  subM : Sub M B
  hk : B kx = none
  okc : bufOk (B.set kx ⟨rdCells cb x, 0⟩) 3 cb
  okm : bufOk (bufH (B.set kx ⟨rdCells cb x, 0⟩) cb) 3 mb
  cards : (x.cards = [] ∧ cb = none ∧ mb = none) ∨ ∃ (done : List (CardC × AVal)) (c : CardC) (kc : Nat), x.cards = done.map (·.1) ++ [c] ∧ cb = some ⟨kc, (done.map cell3).flatten ++ [.bool c.left, .str c.text, bufV 3 mb]⟩ ∧ bufC mb = (c.marks.map markC).flatten ∧ ∀ p ∈ done, IsL w₀ M 3 p.2 (p.1.marks.map markC)

theorem bufNew {H : AHeap} {b : Option Buf} {j : Nat} (hj : bufH H b j = none) (c : Blk) : (bufH H b).set j c = bufH (H.set j c) b ∧ H j = none := by
  cases b with
  | none => exact ⟨rfl, hj⟩
  | some b =>
    have hne : j ≠ b.blk := fun e => by subst e; rw [show bufH H (some b) = H.set b.blk ⟨b.cells, 0⟩ from rfl, AHeap.set_same] at hj; cases hj
    exact ⟨AHeap.set_comm _ _ _ hne, by rw [show bufH H (some b) = H.set b.blk ⟨b.cells, 0⟩ from rfl, AHeap.set_ne _ _ hne] at hj; exact hj⟩
theorem bufOkNew {H : AHeap} {es : Nat} {b : Option Buf} (hb : bufOk H es b) {j : Nat} (hj : bufH H b j = none) (c : Blk) : bufOk (H.set j c) es b := by
  cases b with
  | none => trivial
  | some b =>
    refine ⟨?_, hb.2⟩
    have hne : j ≠ b.blk := fun e => by subst e; rw [show bufH H (some b) = H.set b.blk ⟨b.cells, 0⟩ from rfl, AHeap.set_same] at hj; cases hj
    rw [AHeap.set_ne _ _ hne.symm]
    exact hb.1
/-- Two growing slices beside each other. -/
theorem bufSwap {H : AHeap} {es : Nat} {a b : Option Buf} (ha : bufOk H es a) (hb : bufOk (bufH H a) es b) : bufH (bufH H a) b = bufH (bufH H b) a ∧ bufOk H es b ∧ bufOk (bufH H b) es a := by
  cases a with
  | none => exact ⟨rfl, hb, trivial⟩
  | some a =>
    cases b with
    | none => exact ⟨rfl, trivial, ha⟩
    | some b =>
      have hne : b.blk ≠ a.blk := fun e => by
        have := hb.1
        rw [e, show bufH H (some a) = H.set a.blk ⟨a.cells, 0⟩ from rfl, AHeap.set_same] at this
        cases this
      have hb1 : H b.blk = none := by
        have := hb.1
        rwa [show bufH H (some a) = H.set a.blk ⟨a.cells, 0⟩ from rfl, AHeap.set_ne _ _ hne] at this
      exact ⟨AHeap.set_comm _ _ _ hne, ⟨hb1, hb.2⟩, ⟨(AHeap.set_ne _ _ hne.symm).trans ha.1, ha.2⟩⟩
theorem rdH_new {w₀ : World} {h : AHeap} {kx : Nat} {B M : AHeap} {cb mb : Option Buf} {x : Rd} (hi : RdInv w₀ h kx B M cb mb x) {j : Nat} (hj : rdH kx B cb mb x j = none) (c : Blk) :
    (rdH kx B cb mb x).set j c = rdH kx (B.set j c) cb mb x ∧ RdInv w₀ h kx (B.set j c) M cb mb x ∧ j ≠ kx ∧ B j = none := by
  unfold rdH at hj
  obtain ⟨e1, h1⟩ := bufNew hj c
  obtain ⟨e2, h2⟩ := bufNew h1 c
  have hne : j ≠ kx := fun e => by subst e; rw [AHeap.set_same] at h2; cases h2
  have h3 : B j = none := by rwa [AHeap.set_ne _ _ hne] at h2
  have e3 : (B.set kx ⟨rdCells cb x, 0⟩).set j c = (B.set j c).set kx ⟨rdCells cb x, 0⟩ := AHeap.set_comm _ _ _ hne
  refine ⟨?_, ⟨Sub.trans_set hi.sub (hi.sub.none h3), Sub.trans_set hi.subM (hi.subM.none h3), (AHeap.set_ne _ _ hne.symm).trans hi.hk, ?_, ?_, hi.cards⟩, hne, h3⟩
  · unfold rdH
    rw [e1, e2, e3]
  · rw [← e3]
    exact bufOkNew hi.okc h1 c
  · rw [← e3, ← e2]
    exact bufOkNew hi.okm hj c
section
variable {w₀ : World} {h : AHeap} {kx : Nat} {B M : AHeap} {cb mb : Option Buf} {x : Rd}
theorem RdInv.at (hi : RdInv w₀ h kx B M cb mb x) : rdH kx B cb mb x kx = some ⟨rdCells cb x, 0⟩ := bufAt hi.okm (bufAt hi.okc (AHeap.set_same _ _ _))
theorem RdInv.other (hi : RdInv w₀ h kx B M cb mb x) {j : Nat} {c : Blk} (hj : B j = some c) : rdH kx B cb mb x j = some c :=
  bufAt hi.okm (bufAt hi.okc ((AHeap.set_ne _ _ (fun e => by subst e; rw [hi.hk] at hj; cases hj)).trans hj))
theorem RdInv.above (hi : RdInv w₀ h kx B M cb mb x) : Sub h (rdH kx B cb mb x) := fun _ _ hj => hi.other (hi.sub _ _ hj)
/-- A block beside is written. -/
theorem RdInv.put (hi : RdInv w₀ h kx B M cb mb x) {j : Nat} {c : Blk} (hj : B j = some c) (hh : h j = none) (hM : M j = none) (d : Blk) : (rdH kx B cb mb x).set j d = rdH kx (B.set j d) cb mb x ∧ RdInv w₀ h kx (B.set j d) M cb mb x := by
  have hne : j ≠ kx := fun e => by subst e; rw [hi.hk] at hj; cases hj
  have hj1 : B.set kx ⟨rdCells cb x, 0⟩ j = some c := (AHeap.set_ne _ _ hne).trans hj
  have e3 : (B.set kx ⟨rdCells cb x, 0⟩).set j d = (B.set j d).set kx ⟨rdCells cb x, 0⟩ := AHeap.set_comm _ _ _ hne
  refine ⟨?_, ⟨Sub.trans_set hi.sub hh, Sub.trans_set hi.subM hM, (AHeap.set_ne _ _ hne.symm).trans hi.hk, ?_, ?_, hi.cards⟩⟩
  · unfold rdH
    rw [bufSet hi.okm (bufAt hi.okc hj1), bufSet hi.okc hj1, e3]
  · rw [← e3]
    exact bufOkSet hi.okc hj1 d
  · rw [← e3, ← bufSet hi.okc hj1]
    exact bufOkSet hi.okm (bufAt hi.okc hj1) d
theorem cell3_wide : ∀ p : CardC × AVal, (cell3 p).length = 3 := fun _ => rfl
theorem RdInv.many (hi : RdInv w₀ h kx B M cb mb x) : (bufC cb).length / 3 = x.cards.length := by
  rcases hi.cards with ⟨c1, c2, _⟩ | ⟨done, c', kc, c1, c2, c3, c4⟩
  · rw [c1, c2]; rfl
  · rw [c1, c2]
    simp only [bufC, List.length_append, List.length_map, List.length_cons, List.length_nil]
    rw [flatten_len (es := 3) (by intro y hy; obtain ⟨p, _, rfl⟩ := List.mem_map.1 hy; rfl), List.length_map]
    omega
theorem buf_len (P : Program) {t e : TypeId} (ht : P.underlying t = some (.slice e)) (es : Nat) (b : Option Buf) : pLen P t (bufV es b) = ⟨True, .int .i64 ((bufC b).length / es : Nat)⟩ := by
  cases b with
  | none => simp [bufV, bufC, pLen, ht]
  | some b => simp only [bufV, bufC, pLen, ht]
end
end Go.Proofs.YtmadddihphkmoaaDoor

/-
  Contracts: card of the scanner.
  Conditions: none.
-/
namespace Go.Proofs.YtmadddihphkmoaaDoor
open Go.AM
open Go.Proofs
open Go.Col
open Go.Tok
open Go.RowKit (Below)
set_option maxRecDepth 100000

/-! ### The tokens of a card, step by step -/
def tokAt (c : CardC) (j : Nat) (t : Nx) : TokC := ⟨t.kind, t.text, (atE c j).1, (atE c j).2.1, decide ((atE c j).2.1 < 12)⟩
def cardR (c : CardC) (i : Nat) (l : List TokC) : List TokC × FaultC := cardGo c (c.text.length + 1 - i) i l
theorem cardGo_step (c : CardC) (f i : Nat) (l : List TokC) : cardGo c (f + 1) i l =
    if c.text.length ≤ skipE c.text (picE l).1 i then (l, okF)
    else if errE (nextE c.text (skipE c.text (picE l).1 i) l) l.length ≠ 0 then (l, ⟨errE (nextE c.text (skipE c.text (picE l).1 i) l) l.length, (atE c (skipE c.text (picE l).1 i)).1, (atE c (skipE c.text (picE l).1 i)).2.1⟩)
    else cardGo c f (skipE c.text (picE l).1 i + (nextE c.text (skipE c.text (picE l).1 i) l).n) (l ++ [tokAt c (skipE c.text (picE l).1 i) (nextE c.text (skipE c.text (picE l).1 i) l)]) := rfl
theorem cardGo_fuel (c : CardC) : ∀ (f g i : Nat) (l : List TokC), c.text.length < i + f → c.text.length < i + g → cardGo c f i l = cardGo c g i l
  | 0, g, i, l, h, h' => by
    have hj := skipE_ge c.text (picE l).1 i
    cases g with
    | zero => rfl
    | succ g => rw [cardGo_step, if_pos (by omega)]; rfl
  | f + 1, 0, i, l, h, h' => by
    have hj := skipE_ge c.text (picE l).1 i
    rw [cardGo_step, if_pos (by omega)]; rfl
  | f + 1, g + 1, i, l, h, h' => by
    have hj := skipE_ge c.text (picE l).1 i
    rw [cardGo_step, cardGo_step]
    split
    · rfl
    · rename_i hl
      split
      · rfl
      · rename_i he
        have hn := next_len (by omega) (errE_ok (Decidable.of_not_not he))
        have := hn.n0
        exact cardGo_fuel c f g _ _ (by omega) (by omega)
theorem cardR_step (c : CardC) (i : Nat) (l : List TokC) : cardR c i l =
    if c.text.length ≤ skipE c.text (picE l).1 i then (l, okF)
    else if errE (nextE c.text (skipE c.text (picE l).1 i) l) l.length ≠ 0 then (l, ⟨errE (nextE c.text (skipE c.text (picE l).1 i) l) l.length, (atE c (skipE c.text (picE l).1 i)).1, (atE c (skipE c.text (picE l).1 i)).2.1⟩)
    else cardR c (skipE c.text (picE l).1 i + (nextE c.text (skipE c.text (picE l).1 i) l).n) (l ++ [tokAt c (skipE c.text (picE l).1 i) (nextE c.text (skipE c.text (picE l).1 i) l)]) := by
  have hj := skipE_ge c.text (picE l).1 i
  by_cases h : c.text.length < i
  · unfold cardR
    rw [show c.text.length + 1 - i = 0 by omega, if_pos (by omega)]
    rfl
  · unfold cardR
    rw [show c.text.length + 1 - i = (c.text.length - i) + 1 by omega, cardGo_step]
    split
    · rfl
    · split
      · rfl
      · rename_i hl he
        have hn := next_len (by omega) (errE_ok (Decidable.of_not_not he))
        have := hn.n0
        exact cardGo_fuel c _ _ _ _ (by omega) (by omega)

/-- What holds of each token that is read. -/
theorem cardGo_inv (c : CardC) (P : TokC → Prop) (hP : ∀ (j : Nat) (l : List TokC), j < c.text.length → peekE c.text j ≠ 32 → (nextE c.text j l).e = 0 → P (tokAt c j (nextE c.text j l))) : ∀ (f i : Nat) (l : List TokC), (∀ t ∈ l, P t) → ∀ t ∈ (cardGo c f i l).1, P t
  | 0, i, l, h => h
  | f + 1, i, l, h => by
    rw [cardGo_step]
    split
    · exact h
    · rename_i hl
      split
      · exact h
      · rename_i he
        refine cardGo_inv c P hP f _ _ fun t ht => ?_
        rw [List.mem_append, List.mem_singleton] at ht
        rcases ht with ht | rfl
        · exact h t ht
        · exact hP _ _ (by omega) (skip_not (by omega)) (errE_ok (Decidable.of_not_not he))
theorem cardT_inv (c : CardC) (P : TokC → Prop) (hP : ∀ (j : Nat) (l : List TokC), validC c = true → j < c.text.length → peekE c.text j ≠ 32 → (nextE c.text j l).e = 0 → P (tokAt c j (nextE c.text j l))) (l : List TokC) (h : ∀ t ∈ l, P t) : ∀ t ∈ (cardT c l).1, P t := by
  unfold cardT
  split
  · exact h
  · rename_i h0
    have hv : validC c = true := by
      unfold atE at h0
      split at h0
      · rename_i q; exact q.1
      · exact absurd (show ((0 : Int), (0 : Int), (1 : Int)).2.2 ≠ 0 by decide) h0
    exact cardGo_inv c P (fun j l a b d => hP j l hv a b d) _ _ _ h
theorem scanGo_inv (P : TokC → Prop) : ∀ (cs : List CardC), (∀ c ∈ cs, ∀ (j : Nat) (l : List TokC), validC c = true → j < c.text.length → peekE c.text j ≠ 32 → (nextE c.text j l).e = 0 → P (tokAt c j (nextE c.text j l))) → ∀ (l : List TokC), (∀ t ∈ l, P t) → ∀ t ∈ (scanGo cs l).1, P t
  | [], _, l, h => h
  | c :: r, hP, l, h => by
    rw [scanGo]
    split
    · exact fun t ht => by cases ht
    · exact scanGo_inv P r (fun d hd => hP d (by simp [hd])) _ (cardT_inv c P (hP c (by simp)) l h)
theorem cardGo_many (c : CardC) : ∀ (f i : Nat) (l : List TokC), l.length ≤ 65536 → (cardGo c f i l).1.length ≤ 65536
  | 0, i, l, h => h
  | f + 1, i, l, h => by
    rw [cardGo_step]
    split
    · exact h
    · split
      · exact h
      · rename_i he
        refine cardGo_many c f _ _ ?_
        have hlt : ¬ 65536 ≤ l.length := fun q => by
          have h0 := errE_ok (Decidable.of_not_not he)
          unfold errE at he
          rw [if_pos ⟨h0, q⟩] at he
          exact he (by decide)
        simp
        omega
theorem cardT_many (c : CardC) (l : List TokC) (h : l.length ≤ 65536) : (cardT c l).1.length ≤ 65536 := by
  unfold cardT
  split
  · exact h
  · exact cardGo_many c _ _ _ h
theorem scanGo_many : ∀ (cs : List CardC) (l : List TokC), l.length ≤ 65536 → (scanGo cs l).1.length ≤ 65536
  | [], l, h => h
  | c :: r, l, h => by
    rw [scanGo]
    split
    · exact Nat.zero_le _
    · exact scanGo_many r _ (cardT_many c l h)

/-! ### The scanner's heap -/
def scH (kx : Nat) (B : AHeap) (tb : Option Buf) (lf : Bool) (s : Str) (mv : AVal) (i : Nat) : AHeap := bufH (B.set kx ⟨[.bool lf, .str s, mv, .int .i64 i, bufV 5 tb], 0⟩) tb
structure ScInv (kx : Nat) (B : AHeap) (tb : Option Buf) (l : List TokC) : Prop where
  hk : B kx = none
  ok : ∀ c, bufOk (B.set kx c) 5 tb
  eq : bufC tb = (l.map tokC).flatten
theorem tokC_wide {l : List TokC} : ∀ x ∈ l.map tokC, x.length = 5 := fun x hx => by obtain ⟨y, _, rfl⟩ := List.mem_map.1 hx; rfl
section
variable {w₀ : World} {kx : Nat} {B : AHeap} {tb : Option Buf} {l : List TokC} {lf : Bool} {s : Str} {mv : AVal} {i : Nat}
theorem ScInv.at (hi : ScInv kx B tb l) : scH kx B tb lf s mv i kx = some ⟨[.bool lf, .str s, mv, .int .i64 i, bufV 5 tb], 0⟩ := bufAt (hi.ok _) (AHeap.set_same _ _ _)
theorem ScInv.other (hi : ScInv kx B tb l) {j : Nat} {c : Blk} (hj : B j = some c) : scH kx B tb lf s mv i j = some c :=
  bufAt (hi.ok _) ((AHeap.set_ne _ _ (fun e => by subst e; rw [hi.hk] at hj; cases hj)).trans hj)
theorem ScInv.above (hi : ScInv kx B tb l) : Sub B (scH kx B tb lf s mv i) := fun _ _ hj => hi.other hj
theorem ScInv.toks (hi : ScInv kx B tb l) (c : Blk) : IsL w₀ (bufH (B.set kx c) tb) 5 (bufV 5 tb) (l.map tokC) := IsL.buf (hi.ok c) (by decide) hi.eq tokC_wide (Sub.refl _)
theorem ScInv.set (hi : ScInv kx B tb l) (c : Blk) : (scH kx B tb lf s mv i).set kx c = bufH (B.set kx c) tb := by
  unfold scH
  rw [bufSet (hi.ok _) (AHeap.set_same _ _ _), AHeap.set_set]
theorem ScInv.lay (hi : ScInv kx B tb l) {j : Nat} (hj : scH kx B tb lf s mv i j = none) (c : Blk) :
    (scH kx B tb lf s mv i).set j c = scH kx (B.set j c) tb lf s mv i ∧ ScInv kx (B.set j c) tb l ∧ j ≠ kx ∧ B j = none := by
  have hj' := hj
  unfold scH at hj
  obtain ⟨e1, h1⟩ := bufNew hj c
  have hne : j ≠ kx := fun e => by subst e; rw [AHeap.set_same] at h1; cases h1
  have h3 : B j = none := by rwa [AHeap.set_ne _ _ hne] at h1
  have e3 : ∀ d, (B.set kx d).set j c = (B.set j c).set kx d := fun d => AHeap.set_comm _ _ _ hne
  refine ⟨?_, ⟨(AHeap.set_ne _ _ hne.symm).trans hi.hk, fun d => ?_, hi.eq⟩, hne, h3⟩
  · unfold scH
    rw [e1, e3]
  · rw [← e3]
    refine bufOkNew (hi.ok d) ?_ c
    rw [← ScInv.set hi (lf := lf) (s := s) (mv := mv) (i := i) d, AHeap.set_ne _ _ hne]
    exact hj'
theorem ScInv.down (hi : ScInv kx B tb l) {B' : AHeap} (hs : Sub B' B) : ScInv kx B' tb l := ⟨hs.none hi.hk, fun c => (hi.ok c).sub (Sub.set_both hs _ _), hi.eq⟩
theorem ScInv.none (hi : ScInv kx B tb l) {B' : AHeap} {j : Nat} {b : Blk} (hj : B j = some b) (hj' : B' j = Option.none) : scH kx B' tb lf s mv i j = Option.none := by
  have hne : j ≠ kx := fun e => by rw [e, hi.hk] at hj; cases hj
  have hok := hi.ok ⟨[], 0⟩
  unfold scH
  cases tb with
  | none => exact (AHeap.set_ne _ _ hne).trans hj'
  | some q =>
    have hq : j ≠ q.blk := fun e => by
      have := hok.1
      rw [← e, AHeap.set_ne _ _ hne, hj] at this
      cases this
    exact (AHeap.set_ne _ _ hq).trans ((AHeap.set_ne _ _ hne).trans hj')
theorem scH_sub {B' : AHeap} (hs : Sub B' B) : Sub (scH kx B' tb lf s mv i) (scH kx B tb lf s mv i) := by
  unfold scH
  cases tb with
  | none => exact Sub.set_both hs _ _
  | some b => exact Sub.set_both (Sub.set_both hs _ _) _ _
end
end Go.Proofs.YtmadddihphkmoaaDoor

/-
  Contracts: card of the scanner.
  Conditions: none.
-/
namespace Go.Proofs.YtmadddihphkmoaaDoor
open Go.AM
open Go.Proofs
open Go.Col
open Go.Tok
open Go.RowKit (Below)
set_option maxRecDepth 100000

structure ScG where
  i : Nat
  l : List TokC
  tb : Option Buf
structure ScOk (kx : Nat) (B : AHeap) (c : CardC) (R : List TokC × FaultC) (g : ScG) : Prop where
  inv : ScInv kx B g.tb g.l
  i : g.i ≤ c.text.length
  eq : cardR c g.i g.l = R
  len : g.l.length ≤ 65536
set_option maxHeartbeats 1000000 in
theorem c_card (w₀ : World) (kx : Nat) (B : AHeap) (tb : Option Buf) (c : CardC) (mv : AVal) (l : List TokC) (hi : ScInv kx B tb l) (hm : IsL w₀ B 3 mv (c.marks.map markC)) (hml : c.marks.length ≤ 4611686018427387904) (hct : c.text.length ≤ 1099511627776) (hl : l.length ≤ 65536) :
    ACall Tryd.prog w₀ 27 [.ptr (.own kx) 0] (scH kx B tb c.left c.text mv 0)
      (fun v h' => v = faultA (cardT c l).2 ∧ (cardT c l).1.length ≤ 65536 ∧ ∃ tb' i', h' = scH kx B tb' c.left c.text mv i' ∧ ScInv kx B tb' (cardT c l).1) := by
  have hlm := hm.live
  obtain ⟨H0, hH0⟩ : ∃ H0, H0 = scH kx B tb c.left c.text mv 0 := ⟨_, rfl⟩
  have eb_x : H0 kx = some ⟨[.bool c.left, .str c.text, mv, .int .i64 (0 : Nat), bufV 5 tb], 0⟩ := by rw [hH0]; exact hi.at
  have hs_H0 : Sub B H0 := by rw [hH0]; exact hi.above
  have ht0 : (if (atE c 0).2.2 ≠ 0 then (l, (⟨(atE c 0).2.2, 0, 0⟩ : FaultC)) else cardR c 0 l) = cardT c l := rfl
  rw [← hH0]
  refine acall_intro (n := 82) (rs := [.cell 2 28]) Tryd.func27 rfl rfl rfl rfl (Nat.le_of_ble_eq_true rfl) ?_
  simp only [initSlots]
  -- region 0  tokens.go:203
  refine awp_rseq [0, 2] (by rfl) fun K hK => ?_
  refine aOps_alloc ze28 (cs := [.int .i64 0, .int .i64 0, .int .i64 0]) (by rfl) fun k0q0 hk0q0 => ?_
  have hn_0q0 : H0 k0q0 = none := by first | assumption | (simp only [AHeap.set_none] at hk0q0; simp only [hk0q0])
  have hf_0q0 : B k0q0 = none := Sub.none hs_H0 hn_0q0
  have ne_0q0_x : k0q0 ≠ kx := AHeap.ne_some hn_0q0 eb_x
  simp (decide := true) only [aOps_nil, putD, Slots.put, Slots.keep, if_true, if_false]
  repeat (with_reducible refine And.intro ?_ ?_; · first | trivial | omega | (intro hg; simp only [Bool.and_eq_true, Bool.or_eq_true, Bool.not_eq_true', Bool.and_eq_false_iff, Bool.or_eq_false_iff, Bool.not_eq_false', decide_eq_true_eq, decide_eq_false_iff_not, eqNil] at hg; omega) )
  apply hK; clear hK K
  refine awp_seq ?_
  -- region 1  tokens.go:204
  refine awp_rseq [0, 2, 4] (by rfl) fun K hK => ?_
  simp (decide := true) only [ev, putD, Slots.put, Slots.get, if_true, if_false, true_and, ↓ap_move, pop_move, ↓ap_nilCheck, pop_nilCheck, pNil_ptr, ↓ap_fieldAddr, pop_fieldAddr, fa71_0, ↓ap_loadL, apL_mk, pLoad_agg ag68 sz68, rd_ne', ne_eq, not_false_eq_true, ne_0q0_x.symm, rd_own w₀ eb_x, cellsAt, List.getD_cons_zero, List.getD_cons_succ, Nat.zero_add, Nat.reduceAdd, lv_bool, lv_str, allLive, Bool.and_true, hlm]
  repeat (with_reducible refine And.intro ?_ ?_; · first | trivial | omega | (intro hg; simp only [Bool.and_eq_true, Bool.or_eq_true, Bool.not_eq_true', Bool.and_eq_false_iff, Bool.or_eq_false_iff, Bool.not_eq_false', decide_eq_true_eq, decide_eq_false_iff_not, eqNil] at hg; omega) )
  refine aOps_callV (V := .tuple [posA (atE c 0).1 (atE c 0).2.1, .int .i64 (atE c 0).2.2]) (by rfl) (by rfl) (c_At w₀ _ c mv 0 (hm.mono (by repeat (first | exact Sub.refl _ | assumption | refine Sub.set_both ?_ _ _ | refine Sub.trans_set ?_ (by repeat (first | assumption | refine (AHeap.set_ne _ _ (by first | assumption | exact Ne.symm (by assumption))).trans ?_))))) hml (by omega) (by omega)) ?_
  simp (decide := true) only [ev, putD, Slots.put, Slots.get, if_true, if_false, true_and, ↓ap_move, pop_move, ↓ap_extract, pop_extract, pExt_tuple, List.length_cons, List.length_nil, List.getD_cons_zero, List.getD_cons_succ, List.getD_cons_zero, List.getD_cons_succ, Nat.zero_add, Nat.reduceAdd, posA]
  repeat (with_reducible refine And.intro ?_ ?_; · first | trivial | omega | (intro hg; simp only [Bool.and_eq_true, Bool.or_eq_true, Bool.not_eq_true', Bool.and_eq_false_iff, Bool.or_eq_false_iff, Bool.not_eq_false', decide_eq_true_eq, decide_eq_false_iff_not, eqNil] at hg; omega) )
  refine aOps_alloc ze26 (cs := [.int .i64 0, .int .i64 0]) (by rfl) fun k1q8 hk1q8 => ?_
  have ne_1q8_0q0 : k1q8 ≠ k0q0 := by simp only [AHeap.set_none] at hk1q8; simp only [hk1q8, ne_eq, not_false_eq_true]
  have hn_1q8 : H0 k1q8 = none := by first | assumption | (simp only [AHeap.set_none] at hk1q8; simp only [hk1q8])
  have hf_1q8 : B k1q8 = none := Sub.none hs_H0 hn_1q8
  have ne_1q8_x : k1q8 ≠ kx := AHeap.ne_some hn_1q8 eb_x
  refine aOps_store (by rfl) (by rfl) (by repeat (first | exact AHeap.set_same _ _ _ | assumption | refine (AHeap.set_ne _ _ (by first | assumption | exact Ne.symm (by assumption))).trans ?_)) sz26 (by rfl) (by rfl) (by first | exact Nat.le_refl _ | decide | (simp; done) | (simp; omega)) (Nat.zero_le _) (by rfl) ?_
  simp only [AHeap.set_set, AVal.cells]
  simp (decide := true) only [aOps_nil, ev, putD, Slots.put, Slots.get, Slots.keep, if_true, if_false, true_and, ↓ap_assign, pop_assign, setAt, List.set_cons_zero, List.set_cons_succ, Nat.zero_add]
  repeat (with_reducible refine And.intro ?_ ?_; · first | trivial | omega | (intro hg; simp only [Bool.and_eq_true, Bool.or_eq_true, Bool.not_eq_true', Bool.and_eq_false_iff, Bool.or_eq_false_iff, Bool.not_eq_false', decide_eq_true_eq, decide_eq_false_iff_not, eqNil] at hg; omega) )
  apply hK; clear hK K
  -- region 2  tokens.go:204
  refine awp_rseq [0, 2, 4, 19] (by rfl) fun K hK => ?_
  simp (decide := true) only [aOps_nil, ev, absV, absS, putD, Slots.put, Slots.get, Slots.keep, if_true, if_false, true_and, ↓ap_move, pop_move, ↓ap_binOp, pop_binOp, isNilC_int, cond_false, pBinX_int, pI_neq]
  repeat (with_reducible refine And.intro ?_ ?_; · first | trivial | omega | (intro hg; simp only [Bool.and_eq_true, Bool.or_eq_true, Bool.not_eq_true', Bool.and_eq_false_iff, Bool.or_eq_false_iff, Bool.not_eq_false', decide_eq_true_eq, decide_eq_false_iff_not, eqNil] at hg; omega) )
  apply hK; clear hK K
  refine awp_cond (b := _) rfl (fun hb1 => ?_) (fun hb1 => ?_)
  · try simp only [decide_eq_false_iff_not, Bool.not_eq_true'] at hb1
    -- region 3  tokens.go:205
    refine awp_rseq [2] (by rfl) fun K hK => ?_
    simp (decide := true) only [ev, absV, absS, putD, Slots.put, Slots.get, if_true, if_false, true_and, ↓ap_move, pop_move, ↓ap_build, ↓pop_buildL, bld28_0, evP, List.map_cons, List.map_nil]
    repeat (with_reducible refine And.intro ?_ ?_; · first | trivial | omega | (intro hg; simp only [Bool.and_eq_true, Bool.or_eq_true, Bool.not_eq_true', Bool.and_eq_false_iff, Bool.or_eq_false_iff, Bool.not_eq_false', decide_eq_true_eq, decide_eq_false_iff_not, eqNil] at hg; omega) )
    refine aOps_store (by rfl) (by rfl) (by repeat (first | exact AHeap.set_same _ _ _ | assumption | refine (AHeap.set_ne _ _ (by first | assumption | exact Ne.symm (by assumption))).trans ?_)) sz28 (by rfl) (by rfl) (by first | exact Nat.le_refl _ | decide | (simp; done) | (simp; omega)) (Nat.zero_le _) (by rfl) ?_
    simp only [AVal.cells]
    simp (decide := true) only [aOps_nil, ev, putD, Slots.get, Slots.keep, if_true, if_false, setAt, List.set_cons_zero, List.set_cons_succ, Nat.zero_add, Nat.reduceAdd]
    repeat (with_reducible refine And.intro ?_ ?_; · first | trivial | omega | (intro hg; simp only [Bool.and_eq_true, Bool.or_eq_true, Bool.not_eq_true', Bool.and_eq_false_iff, Bool.or_eq_false_iff, Bool.not_eq_false', decide_eq_true_eq, decide_eq_false_iff_not, eqNil] at hg; omega) )
    apply hK; clear hK K
    refine awp_ret ?_
    try simp only [thenA_ret]
    refine retA_retE (?_) ?_
    · simp (decide := true) only [resPre, resV_cell, Slots.get, if_true, and_true, resV_cell, pLoad_agg ag28 sz28, rd_set, cellsAt, List.getD_cons_zero, List.getD_cons_succ, Nat.zero_add, Nat.reduceAdd, lv_int, allLive, Bool.and_true, cellsAt, List.getD_cons_zero, List.getD_cons_succ, Nat.zero_add, Nat.reduceAdd, lv_int, allLive, Bool.and_true]
    
    simp (decide := true) only [Slots.get, if_true, resOfG_one, resV_cell, pLoad_agg ag28 sz28, rd_set, cellsAt, List.getD_cons_zero, List.getD_cons_succ, Nat.zero_add, Nat.reduceAdd, lv_int, allLive, Bool.and_true, cellsAt, List.getD_cons_zero, List.getD_cons_succ, Nat.zero_add, Nat.reduceAdd, lv_int, allLive, Bool.and_true, faultA]
    rw [if_pos hb1] at ht0
    rw [← ht0]
    exact ⟨scH kx B tb c.left c.text mv 0, by rw [← hH0]; exact (by repeat (first | exact Sub.refl _ | assumption | refine Sub.set_both ?_ _ _ | refine Sub.trans_set ?_ (by repeat (first | assumption | refine (AHeap.set_ne _ _ (by first | assumption | exact Ne.symm (by assumption))).trans ?_)))), rfl, hl, tb, 0, rfl, hi⟩
  · try simp only [decide_eq_true_eq, Bool.not_eq_false'] at hb1
    have hv0 : (atE c 0).2.2 = 0 := by simpa using hb1
    rw [if_neg (by rw [hv0]; simp)] at ht0
    obtain ⟨a1, a2, a3, a4⟩ := hi.lay (j := k0q0) (lf := c.left) (s := c.text) (mv := mv) (i := 0) (by rw [← hH0]; exact hk0q0) ⟨[.int .i64 0, .int .i64 0, .int .i64 0], 0⟩
    obtain ⟨B1, hB1⟩ : ∃ B1, B1 = B.set k0q0 ⟨[.int .i64 0, .int .i64 0, .int .i64 0], 0⟩ := ⟨_, rfl⟩
    rw [← hB1] at a1 a2
    have hB1s : Sub B B1 := by rw [hB1]; exact Sub.set a4
    have hB1k : B1 k0q0 = some ⟨[.int .i64 0, .int .i64 0, .int .i64 0], 0⟩ := by rw [hB1]; exact AHeap.set_same _ _ _
    have hv : validC c = true := by
      unfold atE at hv0
      split at hv0
      · rename_i q; exact q.1
      · cases hv0
    refine Awp.forget (h' := scH kx B1 tb c.left c.text mv 0) (by rw [← a1, ← hH0]; exact Sub.set hk1q8) ?_
    refine awp_skip ?_
    change Awp _ _ _ _ _ _ _
    refine awp_seq ?_
    refine awp_block ?_
    refine awp_loopG [0, 2] (fun g : ScG => [(0, .ptr (.own kx) 0), (2, .ptr (.own k0q0) 0)]) (fun g : ScG => scH kx B1 g.tb c.left c.text mv g.i) (fun g : ScG => ScOk kx B1 c (cardT c l) g) (fun g : ScG => c.text.length - g.i) ⟨0, l, tb⟩ (by rfl) (Sub.refl _) ⟨a2, Nat.zero_le _, ht0, hl⟩ ?_
    rintro ⟨i, l1, tb1⟩ ⟨i1, i2, i3, i4⟩
    simp only at i1 i2 i3 i4 ⊢
    have hjl := skipE_le c.text (picE l1).1 i i2
    have hjg := skipE_ge c.text (picE l1).1 i
    have hnot := skip_not (s := c.text) (next := (picE l1).1) (i := i)
    have hstep := cardR_step c i l1
    have hsk := c_skip w₀ (scH kx B1 tb1 c.left c.text mv i) kx c.left c.text mv (bufV 5 tb1) i l1 i1.at (i1.toks _) (fun d => by rw [i1.set]; exact i1.toks d) (by omega) hct i2
    have hst := i1.set (lf := c.left) (s := c.text) (mv := mv) (i := i) ⟨[.bool c.left, .str c.text, mv, .int .i64 (skipE c.text (picE l1).1 i), bufV 5 tb1], 0⟩
    obtain ⟨j, hj⟩ : ∃ j, j = skipE c.text (picE l1).1 i := ⟨_, rfl⟩
    rw [← hj] at hjl hjg hnot hstep hsk hst
    rw [i3] at hstep
    have hval : atE c j = ((atE c j).1, (atE c j).2.1, 0) := by
      unfold atE
      rw [if_pos ⟨hv, by omega, by omega⟩]
    refine awp_seq ?_
    -- region 4  tokens.go:207
    refine awp_rseq [0, 2, 23] (by rfl) fun K hK => ?_
    simp (decide := true) only [ev, putD, Slots.put, Slots.get, if_true, if_false, true_and, ↓ap_move, pop_move]
    repeat (with_reducible refine And.intro ?_ ?_; · first | trivial | omega | (intro hg; simp only [Bool.and_eq_true, Bool.or_eq_true, Bool.not_eq_true', Bool.and_eq_false_iff, Bool.or_eq_false_iff, Bool.not_eq_false', decide_eq_true_eq, decide_eq_false_iff_not, eqNil] at hg; omega) )
    refine aOps_call (by rfl) (by rfl) (hsk) fun x4q1 h4q1 hx4q1 => ?_
    obtain ⟨hv4, hh4⟩ := hx4q1
    rw [hv4, hh4, hst]
    simp (decide := true) only [aOps_nil, putD, Slots.put, Slots.keep, if_true, if_false]
    repeat (with_reducible refine And.intro ?_ ?_; · first | trivial | omega | (intro hg; simp only [Bool.and_eq_true, Bool.or_eq_true, Bool.not_eq_true', Bool.and_eq_false_iff, Bool.or_eq_false_iff, Bool.not_eq_false', decide_eq_true_eq, decide_eq_false_iff_not, eqNil] at hg; omega) )
    apply hK; clear hK K
    refine awp_cond (b := _) rfl (fun hb2 => ?_) (fun hb2 => ?_)
    · try simp only [decide_eq_true_eq] at hb2
      refine awp_skip ?_
      change Awp _ _ _ _ _ _ _
      refine awp_block ?_
      have hjlt : j < c.text.length := by simpa using hb2
      have h32 := hnot hjlt
      obtain ⟨H1, hH1⟩ : ∃ H1, H1 = scH kx B1 tb1 c.left c.text mv j := ⟨_, rfl⟩
      have htk : IsL w₀ H1 5 (bufV 5 tb1) (l1.map tokC) := by rw [hH1]; exact i1.toks _
      replace eb_x : H1 kx = some ⟨[.bool c.left, .str c.text, mv, .int .i64 j, bufV 5 tb1], 0⟩ := by rw [hH1]; exact i1.at
      have eb_0q0 : H1 k0q0 = some ⟨[.int .i64 0, .int .i64 0, .int .i64 0], 0⟩ := by rw [hH1]; exact i1.other hB1k
      have hs_H1 : Sub B H1 := by rw [hH1]; exact hB1s.trans i1.above
      have htl := htk.live
      have hlen := htk.len Tryd.underlying23
      rw [List.length_map] at hlen
      rw [if_neg (by omega)] at hstep
      obtain ⟨t, ht⟩ : ∃ t, t = nextE c.text j l1 := ⟨_, rfl⟩
      rw [← ht] at hstep
      show Awp _ _ _ _ _ _ (scH kx B1 tb1 c.left c.text mv j)
      rw [← hH1]
      -- region 5  tokens.go:208
      refine awp_dseq_F 13 [11] [0, 2, 5] mixed (by kernel_rfl) (by rfl) fun K hK => ?_
      simp only [List.take_succ_cons, List.take_zero, List.drop_succ_cons, List.drop_zero]
      simp (decide := true) only [ev, putD, Slots.put, Slots.get, if_true, if_false, true_and, ↓fp_move, pop_move, ↓fp_nilCheck, pop_nilCheck, pNil_ptr, ↓fp_fieldAddr, pop_fieldAddr, fa71_0, ↓fp_load, pop_load, pLoad_agg ag68 sz68, fa71_1, pLoad_one ag3, rd_own w₀ eb_x, cellsAt, List.getD_cons_zero, List.getD_cons_succ, Nat.zero_add, Nat.reduceAdd, lv_bool, lv_int, lv_str, allLive, Bool.and_true, hlm]
      repeat (with_reducible refine And.intro ?_ ?_; · first | trivial | omega | (intro hg; simp only [Bool.and_eq_true, Bool.or_eq_true, Bool.not_eq_true', Bool.and_eq_false_iff, Bool.or_eq_false_iff, Bool.not_eq_false', decide_eq_true_eq, decide_eq_false_iff_not, eqNil] at hg; omega) )
      refine fOps_callV (V := .tuple [posA (atE c j).1 (atE c j).2.1, .int .i64 (atE c j).2.2]) (by rfl) (by rfl) (by first | trivial | (simp (decide := true) only [AVal.okIn, okInL, and_true, true_and, faultA, markC, posA, cardA, nxA, nxR, AHeap.set_same, Option.isSome_some]; done) | (simp [AVal.okIn, okInL, AHeap.set]; done)) (fun g hg => c_At w₀ _ c mv j (hm.mono (hs_H1.trans hg)) hml (by omega) (by omega)) ?_
      simp (decide := true) only [ev, putD, Slots.put, Slots.get, if_true, if_false, true_and, ↓fp_move, pop_move, ↓fp_extract, pop_extract, pExt_tuple, List.length_cons, List.length_nil, List.getD_cons_zero, List.getD_cons_succ, List.getD_cons_zero, List.getD_cons_succ, Nat.zero_add, Nat.reduceAdd, posA]
      repeat (with_reducible refine And.intro ?_ ?_; · first | trivial | omega | (intro hg; simp only [Bool.and_eq_true, Bool.or_eq_true, Bool.not_eq_true', Bool.and_eq_false_iff, Bool.or_eq_false_iff, Bool.not_eq_false', decide_eq_true_eq, decide_eq_false_iff_not, eqNil] at hg; omega) )
      refine fOps_lay (by rfl) ?_
      refine aOps_alloc ze26 (cs := [.int .i64 0, .int .i64 0]) (by rfl) fun k5q12 hk5q12 => ?_
      have hn_5q12 : H1 k5q12 = none := by first | assumption | (simp only [AHeap.set_none] at hk5q12; simp only [hk5q12])
      have hf_5q12 : B k5q12 = none := Sub.none hs_H1 hn_5q12
      have ne_5q12_x : k5q12 ≠ kx := AHeap.ne_some hn_5q12 eb_x
      have ne_5q12_0q0 : k5q12 ≠ k0q0 := AHeap.ne_some hn_5q12 eb_0q0
      rw [aOps_nil]
      repeat (with_reducible refine And.intro ?_ ?_; · first | trivial | omega | (intro hg; simp only [Bool.and_eq_true, Bool.or_eq_true, Bool.not_eq_true', Bool.and_eq_false_iff, Bool.or_eq_false_iff, Bool.not_eq_false', decide_eq_true_eq, decide_eq_false_iff_not, eqNil] at hg; omega) )
      try simp only [fOps_nil]
      refine aOps_store (by rfl) (by rfl) (by repeat (first | exact AHeap.set_same _ _ _ | assumption | refine (AHeap.set_ne _ _ (by first | assumption | exact Ne.symm (by assumption))).trans ?_)) sz26 (by rfl) (by rfl) (by first | exact Nat.le_refl _ | decide | (simp; done) | (simp; omega)) (Nat.zero_le _) (by rfl) ?_
      simp only [AHeap.set_set, AVal.cells]
      simp (decide := true) only [aOps_nil, ev, putD, Slots.put, Slots.get, Slots.keep, if_true, if_false, true_and, ↓ap_assign, pop_assign, setAt, List.set_cons_zero, List.set_cons_succ, Nat.zero_add]
      repeat (with_reducible refine And.intro ?_ ?_; · first | trivial | omega | (intro hg; simp only [Bool.and_eq_true, Bool.or_eq_true, Bool.not_eq_true', Bool.and_eq_false_iff, Bool.or_eq_false_iff, Bool.not_eq_false', decide_eq_true_eq, decide_eq_false_iff_not, eqNil] at hg; omega) )
      apply hK; clear hK K
      -- region 6  tokens.go:209
      refine awp_rseq [0, 2, 5, 7, 8, 9] (by rfl) fun K hK => ?_
      simp (decide := true) only [ev, putD, Slots.put, Slots.get, if_true, if_false, true_and, ↓ap_move, pop_move]
      repeat (with_reducible refine And.intro ?_ ?_; · first | trivial | omega | (intro hg; simp only [Bool.and_eq_true, Bool.or_eq_true, Bool.not_eq_true', Bool.and_eq_false_iff, Bool.or_eq_false_iff, Bool.not_eq_false', decide_eq_true_eq, decide_eq_false_iff_not, eqNil] at hg; omega) )
      refine aOps_callV (V := nxR t) (by rfl) (by rfl) (by rw [ht]; exact c_next w₀ _ kx c.left c.text mv (bufV 5 tb1) j l1 ((by repeat (first | exact AHeap.set_same _ _ _ | assumption | refine (AHeap.set_ne _ _ (by first | assumption | exact Ne.symm (by assumption))).trans ?_))) (htk.mono (by repeat (first | exact Sub.refl _ | assumption | refine Sub.set_both ?_ _ _ | refine Sub.trans_set ?_ (by repeat (first | assumption | refine (AHeap.set_ne _ _ (by first | assumption | exact Ne.symm (by assumption))).trans ?_))))) (by omega) h32 hct) ?_
      simp (decide := true) only [ev, putD, Slots.put, Slots.get, if_true, if_false, true_and, ↓ap_move, pop_move, ↓ap_extract, pop_extract, pExt_tuple, List.length_cons, List.length_nil, List.getD_cons_zero, List.getD_cons_succ, List.getD_cons_zero, List.getD_cons_succ, Nat.zero_add, Nat.reduceAdd, nxA, nxR]
      repeat (with_reducible refine And.intro ?_ ?_; · first | trivial | omega | (intro hg; simp only [Bool.and_eq_true, Bool.or_eq_true, Bool.not_eq_true', Bool.and_eq_false_iff, Bool.or_eq_false_iff, Bool.not_eq_false', decide_eq_true_eq, decide_eq_false_iff_not, eqNil] at hg; omega) )
      refine aOps_alloc ze35 (cs := [.int .u8 0, .str [], .int .i64 0, .int .i64 0, .bool false]) (by rfl) fun k6q6 hk6q6 => ?_
      have ne_6q6_5q12 : k6q6 ≠ k5q12 := by simp only [AHeap.set_none] at hk6q6; simp only [hk6q6, ne_eq, not_false_eq_true]
      have hn_6q6 : H1 k6q6 = none := by first | assumption | (simp only [AHeap.set_none] at hk6q6; simp only [hk6q6])
      have hf_6q6 : B k6q6 = none := Sub.none hs_H1 hn_6q6
      have ne_6q6_x : k6q6 ≠ kx := AHeap.ne_some hn_6q6 eb_x
      have ne_6q6_0q0 : k6q6 ≠ k0q0 := AHeap.ne_some hn_6q6 eb_0q0
      refine aOps_store (by rfl) (by rfl) (by repeat (first | exact AHeap.set_same _ _ _ | assumption | refine (AHeap.set_ne _ _ (by first | assumption | exact Ne.symm (by assumption))).trans ?_)) sz35 (by rfl) (by rfl) (by first | exact Nat.le_refl _ | decide | (simp; done) | (simp; omega)) (Nat.zero_le _) (by rfl) ?_
      simp only [AHeap.set_set, AVal.cells]
      simp (decide := true) only [aOps_nil, ev, putD, Slots.put, Slots.get, Slots.keep, if_true, if_false, true_and, ↓ap_assign, pop_assign, setAt, List.set_cons_zero, List.set_cons_succ, Nat.zero_add, Nat.reduceAdd]
      repeat (with_reducible refine And.intro ?_ ?_; · first | trivial | omega | (intro hg; simp only [Bool.and_eq_true, Bool.or_eq_true, Bool.not_eq_true', Bool.and_eq_false_iff, Bool.or_eq_false_iff, Bool.not_eq_false', decide_eq_true_eq, decide_eq_false_iff_not, eqNil] at hg; omega) )
      apply hK; clear hK K
      refine awp_seq ?_
      -- region 7  tokens.go:210
      refine awp_rseq [0, 2, 5, 7, 8, 9, 51] (by rfl) fun K hK => ?_
      simp (decide := true) only [aOps_nil, ev, absV, absS, putD, Slots.put, Slots.get, Slots.keep, if_true, if_false, true_and, ↓ap_move, pop_move, ↓ap_binOp, pop_binOp, isNilC_int, cond_false, pBinX_int, pI_eql, ↓ag_move, agP, agQ_some, nthDst, gKnown_bool, guardB_bool_true, implies_true, ↓ag_nilCheck, pop_nilCheck, pNil_ptr, cv_nil, cp_nil, ↓ag_fieldAddr, pop_fieldAddr, fa71_2, cv_fieldAddr, cp_fieldAddr, ↓ag_loadL, agQL_some, agL_mk, agL_ld1, pLoad_one ag23, ↓ag_len, pop_len, cv_len, cp_len, ↓ag_binOp, cv_binl, cp_binl, pI_geq, ↓ap_pick, pop_pick, pPick_bool, pickV_cond_l, pickV_and, rd_ne', ne_eq, not_false_eq_true, ne_5q12_x.symm, ne_6q6_x.symm, rd_own w₀ eb_x, List.getD_cons_zero, List.getD_cons_succ, Nat.zero_add, htl, hlen]
      repeat (with_reducible refine And.intro ?_ ?_; · first | trivial | omega | (intro hg; simp only [Bool.and_eq_true, Bool.or_eq_true, Bool.not_eq_true', Bool.and_eq_false_iff, Bool.or_eq_false_iff, Bool.not_eq_false', decide_eq_true_eq, decide_eq_false_iff_not, eqNil] at hg; omega) )
      apply hK; clear hK K
      refine awp_joinT [0, 2, 5, 7, 8, 9] (fun z : Unit => [(0, .ptr (.own kx) 0), (2, .ptr (.own k0q0) 0), (5, .ptr (.own k5q12) 0), (7, .ptr (.own k6q6) 0), (8, .int .i64 t.n), (9, .int .i64 (errE t l1.length))]) (fun z : Unit => (H1.set k5q12 ⟨[.int .i64 (atE c j).1, .int .i64 (atE c j).2.1], 0⟩).set k6q6 ⟨[.int .u8 t.kind.toNat, .str t.text, .int .i64 0, .int .i64 0, .bool false], 0⟩) (fun z : Unit => True) ?_ ?_
      · refine awp_cond (b := _) rfl (fun hb3 => ?_) (fun hb3 => ?_)
        · try simp only [decide_eq_true_eq, Bool.and_eq_true] at hb3
          have hee : errE t l1.length = 3 := by unfold errE; rw [if_pos ⟨hb3.1, by omega⟩]
          -- region 8  tokens.go:211
          refine awp_r [0, 2, 5, 7, 8, 9] (by rfl) ?_
          simp (decide := true) only [aOps_nil, ev, absV, absS, putD, Slots.put, Slots.keep, if_true, if_false, true_and, and_true, ↓ap_assign, pop_assign, faultA]
          repeat (with_reducible refine And.intro ?_ ?_; · first | trivial | omega | (intro hg; simp only [Bool.and_eq_true, Bool.or_eq_true, Bool.not_eq_true', Bool.and_eq_false_iff, Bool.or_eq_false_iff, Bool.not_eq_false', decide_eq_true_eq, decide_eq_false_iff_not, eqNil] at hg; omega) )
          try simp only [thenA_normal]
          first
          | exact ⟨(), by rw [hee]; rfl, Sub.refl _, trivial⟩
          | exact ⟨(), by rw [hee]; rfl, Sub.refl _⟩
        · try simp only [decide_eq_false_iff_not, Bool.and_eq_false_iff] at hb3
          have hee : errE t l1.length = t.e := by unfold errE; rw [if_neg (fun q => hb3.elim (fun z => z q.1) (fun z => z (by omega)))]
          refine awp_skip ?_
          try simp only [thenA_normal]
          first
          | exact ⟨(), by rw [hee]; rfl, Sub.refl _, trivial⟩
          | exact ⟨(), by rw [hee]; rfl, Sub.refl _⟩
      · intro _ _
        refine awp_seq ?_
        -- region 9  tokens.go:213
        refine awp_rseq [0, 2, 5, 7, 8, 9, 53] (by rfl) fun K hK => ?_
        simp (decide := true) only [aOps_nil, ev, absV, absS, putD, Slots.put, Slots.get, Slots.keep, if_true, if_false, true_and, ↓ap_move, pop_move, ↓ap_binOp, pop_binOp, isNilC_int, cond_false, pBinX_int, pI_neq]
        repeat (with_reducible refine And.intro ?_ ?_; · first | trivial | omega | (intro hg; simp only [Bool.and_eq_true, Bool.or_eq_true, Bool.not_eq_true', Bool.and_eq_false_iff, Bool.or_eq_false_iff, Bool.not_eq_false', decide_eq_true_eq, decide_eq_false_iff_not, eqNil] at hg; omega) )
        apply hK; clear hK K
        refine awp_cond (b := _) rfl (fun hb4 => ?_) (fun hb4 => ?_)
        · try simp only [decide_eq_false_iff_not, Bool.not_eq_true'] at hb4
          rw [if_pos hb4] at hstep
          have hSB : Sub (scH kx B tb1 c.left c.text mv j) H1 := by rw [hH1]; exact scH_sub hB1s
          have hz0 : (scH kx B tb1 c.left c.text mv j) k0q0 = none := i1.none hB1k a4
          have hz5 := Sub.none hSB hn_5q12
          have hz6 := Sub.none hSB hn_6q6
          -- region 10  tokens.go:214
          refine awp_rseq [2] (by rfl) fun K hK => ?_
          simp (decide := true) only [ev, absV, absS, putD, Slots.put, Slots.get, if_true, if_false, true_and, ↓ap_move, pop_move, ↓ap_loadL, apL_mk, pLoad_agg ag26 sz26, ↓ap_build, ↓pop_buildL, bld28_0_1, evP, List.map_cons, List.map_nil, rd_ne', ne_eq, not_false_eq_true, ne_6q6_5q12.symm, rd_any, cellsAt, List.getD_cons_zero, List.getD_cons_succ, Nat.zero_add, lv_int, allLive, Bool.and_true]
          repeat (with_reducible refine And.intro ?_ ?_; · first | trivial | omega | (intro hg; simp only [Bool.and_eq_true, Bool.or_eq_true, Bool.not_eq_true', Bool.and_eq_false_iff, Bool.or_eq_false_iff, Bool.not_eq_false', decide_eq_true_eq, decide_eq_false_iff_not, eqNil] at hg; omega) )
          refine aOps_store (by rfl) (by rfl) (by repeat (first | exact AHeap.set_same _ _ _ | assumption | refine (AHeap.set_ne _ _ (by first | assumption | exact Ne.symm (by assumption))).trans ?_)) sz28 (by rfl) (by rfl) (by first | exact Nat.le_refl _ | decide | (simp; done) | (simp; omega)) (Nat.zero_le _) (by rfl) ?_
          simp only [AVal.cells]
          simp (decide := true) only [aOps_nil, ev, putD, Slots.get, Slots.keep, if_true, if_false, setAt, List.set_cons_zero, List.set_cons_succ, Nat.zero_add, Nat.reduceAdd]
          repeat (with_reducible refine And.intro ?_ ?_; · first | trivial | omega | (intro hg; simp only [Bool.and_eq_true, Bool.or_eq_true, Bool.not_eq_true', Bool.and_eq_false_iff, Bool.or_eq_false_iff, Bool.not_eq_false', decide_eq_true_eq, decide_eq_false_iff_not, eqNil] at hg; omega) )
          apply hK; clear hK K
          refine awp_ret ?_
          try simp only [thenA_ret, inBlockA_ret]
          refine retA_retE (?_) ?_
          · simp (decide := true) only [resPre, resV_cell, Slots.get, if_true, and_true, resV_cell, pLoad_agg ag28 sz28, rd_set, cellsAt, List.getD_cons_zero, List.getD_cons_succ, Nat.zero_add, Nat.reduceAdd, lv_int, allLive, Bool.and_true, cellsAt, List.getD_cons_zero, List.getD_cons_succ, Nat.zero_add, Nat.reduceAdd, lv_int, allLive, Bool.and_true]
          
          simp (decide := true) only [Slots.get, if_true, resOfG_one, resV_cell, pLoad_agg ag28 sz28, rd_set, cellsAt, List.getD_cons_zero, List.getD_cons_succ, Nat.zero_add, Nat.reduceAdd, lv_int, allLive, Bool.and_true, cellsAt, List.getD_cons_zero, List.getD_cons_succ, Nat.zero_add, Nat.reduceAdd, lv_int, allLive, Bool.and_true, faultA]
          rw [hstep]
          exact ⟨scH kx B tb1 c.left c.text mv j, (by repeat (first | exact Sub.refl _ | assumption | refine Sub.set_both ?_ _ _ | refine Sub.trans_set ?_ (by repeat (first | assumption | refine (AHeap.set_ne _ _ (by first | assumption | exact Ne.symm (by assumption))).trans ?_)))), rfl, i4, tb1, j, rfl, i1.down hB1s⟩
        · try simp only [decide_eq_true_eq, Bool.not_eq_false'] at hb4
          have hez : errE t l1.length = 0 := by simpa using hb4
          rw [if_neg (by rw [hez]; simp)] at hstep
          have hte := errE_ok hez
          have hlt : l1.length < 65536 := by
            unfold errE at hez
            split at hez
            · cases hez
            · rename_i q; exact Nat.lt_of_not_le fun z => q ⟨hte, z⟩
          have hnk : NxOk c.text j t := by
            rw [ht] at hte ⊢
            exact next_ok hjlt (by rwa [peekE_lt hjlt] at h32) hte
          have hn0 := hnk.n0
          have hn1 := hnk.n1
          refine awp_skip ?_
          change Awp _ _ _ _ _ _ _
          -- region 11  tokens.go:216
          refine awp_dseq_G 5 [1, 2, 3] [k5q12] [0, 2, 7, 8] mixed (by kernel_rfl) (by rfl) fun K hK => ?_
          simp only [List.take_succ_cons, List.take_zero, List.drop_succ_cons, List.drop_zero]
          simp (decide := true) only [fOps_nil, ev, absV, absS, putD, Slots.put, Slots.get, if_true, if_false, true_and, ↓fp_load, pop_load, pLoad_agg ag26 sz26, ↓fp_fieldAddr, pop_fieldAddr, fa26_1, pLoad_one ag3, ↓fp_binOp, pop_binOp, isNilC_int, cond_false, pBinX_int, pI_lss, fa35_2, rd_ne', ne_eq, not_false_eq_true, ne_6q6_5q12.symm, rd_any, cellsAt, List.getD_cons_zero, List.getD_cons_succ, Nat.zero_add, lv_int, allLive, Bool.and_true]
          repeat (with_reducible refine And.intro ?_ ?_; · first | trivial | omega | (intro hg; simp only [Bool.and_eq_true, Bool.or_eq_true, Bool.not_eq_true', Bool.and_eq_false_iff, Bool.or_eq_false_iff, Bool.not_eq_false', decide_eq_true_eq, decide_eq_false_iff_not, eqNil] at hg; omega) )
          try simp only [vOps_nil, fOps_nil]
          refine And.intro (by simp (decide := true) [lateOK, ev, Slots.get]) ?_
          refine kOps_step ?_
          refine aOps_store (by rfl) (by rfl) (by repeat (first | exact AHeap.set_same _ _ _ | assumption | refine (AHeap.set_ne _ _ (by first | assumption | exact Ne.symm (by assumption))).trans ?_)) sz26 (by rfl) (by rfl) (by first | exact Nat.le_refl _ | decide | (simp; done) | (simp; omega)) (Nat.zero_le _) (by rfl) ?_
          simp only [AHeap.set_set, AVal.cells]
          rw [aOps_nil]
          refine And.intro (by intro k hk; simp only [List.mem_cons, List.not_mem_nil, or_false] at hk; first | rfl | (first | subst hk | (rcases hk with rfl | rfl | rfl | rfl | rfl)); all_goals simp [AHeap.set, ne_6q6_5q12.symm]) ?_
          simp (decide := true) only [ev, putD, Slots.put, Slots.get, if_true, if_false, true_and, ↓kp_fieldAddr, pop_fieldAddr, fa35_3, setAt, List.set_cons_zero, List.set_cons_succ, Nat.zero_add, Nat.reduceAdd]
          repeat (with_reducible refine And.intro ?_ ?_; · first | trivial | omega | (intro hg; simp only [Bool.and_eq_true, Bool.or_eq_true, Bool.not_eq_true', Bool.and_eq_false_iff, Bool.or_eq_false_iff, Bool.not_eq_false', decide_eq_true_eq, decide_eq_false_iff_not, eqNil] at hg; omega) )
          refine kOps_step ?_
          refine aOps_store (by rfl) (by rfl) (by repeat (first | exact AHeap.set_same _ _ _ | assumption | refine (AHeap.set_ne _ _ (by first | assumption | exact Ne.symm (by assumption))).trans ?_)) sz4 (by rfl) (by rfl) (by first | exact Nat.le_refl _ | decide | (simp; done) | (simp; omega)) (Nat.zero_le _) (by rfl) ?_
          simp only [AHeap.set_set, AVal.cells]
          rw [aOps_nil]
          refine And.intro (by intro k hk; simp only [List.mem_cons, List.not_mem_nil, or_false] at hk; first | rfl | (first | subst hk | (rcases hk with rfl | rfl | rfl | rfl | rfl)); all_goals simp [AHeap.set, ne_6q6_5q12.symm]) ?_
          simp (decide := true) only [kOps_nil, ev, putD, Slots.get, Slots.keep, if_true, if_false, setAt, List.set_cons_zero, List.set_cons_succ]
          repeat (with_reducible refine And.intro ?_ ?_; · first | trivial | omega | (intro hg; simp only [Bool.and_eq_true, Bool.or_eq_true, Bool.not_eq_true', Bool.and_eq_false_iff, Bool.or_eq_false_iff, Bool.not_eq_false', decide_eq_true_eq, decide_eq_false_iff_not, eqNil] at hg; omega) )
          apply hK; clear hK K
          -- region 12  tokens.go:217
          refine awp_dseq_F 7 [0] [0, 2, 8] mixed (by kernel_rfl) (by rfl) fun K hK => ?_
          simp only [List.take_succ_cons, List.take_zero, List.drop_succ_cons, List.drop_zero]
          simp (decide := true) only [ev, putD, Slots.put, Slots.get, if_true, if_false, true_and, ↓fp_move, pop_move, ↓fp_nilCheck, pop_nilCheck, pNil_ptr, ↓fp_fieldAddr, pop_fieldAddr, fa71_2, ↓fp_load, pop_load, pLoad_one ag23, pLoad_agg ag35 sz35, rd_ne', ne_eq, not_false_eq_true, ne_5q12_x.symm, ne_6q6_x.symm, rd_own w₀ eb_x, rd_any, cellsAt, List.getD_cons_zero, List.getD_cons_succ, Nat.zero_add, Nat.reduceAdd, lv_bool, lv_int, lv_str, allLive, Bool.and_true, htl]
          repeat (with_reducible refine And.intro ?_ ?_; · first | trivial | omega | (intro hg; simp only [Bool.and_eq_true, Bool.or_eq_true, Bool.not_eq_true', Bool.and_eq_false_iff, Bool.or_eq_false_iff, Bool.not_eq_false', decide_eq_true_eq, decide_eq_false_iff_not, eqNil] at hg; omega) )
          refine fOps_lay (by rfl) ?_
          refine aOps_buildSlice (cs := tokC (tokAt c j t)) (by kernel_rfl) fun k12q6 hk12q6 => ?_
          have ne_12q6_5q12 : k12q6 ≠ k5q12 := by simp only [AHeap.set_none] at hk12q6; simp only [hk12q6, ne_eq, not_false_eq_true]
          have ne_12q6_6q6 : k12q6 ≠ k6q6 := by simp only [AHeap.set_none] at hk12q6; simp only [hk12q6, ne_eq, not_false_eq_true]
          have hn_12q6 : H1 k12q6 = none := by first | assumption | (simp only [AHeap.set_none] at hk12q6; simp only [hk12q6])
          have hf_12q6 : B k12q6 = none := Sub.none hs_H1 hn_12q6
          have ne_12q6_x : k12q6 ≠ kx := AHeap.ne_some hn_12q6 eb_x
          have ne_12q6_0q0 : k12q6 ≠ k0q0 := AHeap.ne_some hn_12q6 eb_0q0
          rw [aOps_nil]
          repeat (with_reducible refine And.intro ?_ ?_; · first | trivial | omega | (intro hg; simp only [Bool.and_eq_true, Bool.or_eq_true, Bool.not_eq_true', Bool.and_eq_false_iff, Bool.or_eq_false_iff, Bool.not_eq_false', decide_eq_true_eq, decide_eq_false_iff_not, eqNil] at hg; omega) )
          try simp only [fOps_nil]
          refine aOps_appendL (es := 5) (zs := l1.map tokC) (xs := [tokC (tokAt c j t)]) (h₀ := B1.set kx ⟨[.bool c.left, .str c.text, mv, .int .i64 j, bufV 5 tb1], 0⟩) (b := tb1) (by rfl) (by rfl) Tryd.underlying23 Tryd.underlying23 (fun k e => by cases e) sz35 by35 ze35 (by rfl) (by decide) (by rfl) (i1.ok _) i1.eq tokC_wide (by rw [show bufH (B1.set kx ⟨[.bool c.left, .str c.text, mv, .int .i64 j, bufV 5 tb1], 0⟩) tb1 = H1 from hH1.symm]; exact (by repeat (first | exact Sub.refl _ | assumption | refine Sub.set_both ?_ _ _ | refine Sub.trans_set ?_ (by repeat (first | assumption | refine (AHeap.set_ne _ _ (by first | assumption | exact Ne.symm (by assumption))).trans ?_))))) (by rfl) (IsL.own (AHeap.set_same _ _ _) (by simp [tokC]) (by rfl) (by rfl) (.exact 1) (Nat.le_refl _)) (by rfl) (by simp; omega) (by simp; omega) fun tb2 h12 o1 o2 o3 => ?_
          have hlv2 := bufV_live 5 tb2
          simp (decide := true) only [ev, putD, Slots.put, Slots.get, if_true, if_false, true_and, ↓ap_nilCheck, pop_nilCheck, pNil_ptr, ↓ap_fieldAddr, pop_fieldAddr, fa71_2, Nat.zero_add]
          repeat (with_reducible refine And.intro ?_ ?_; · first | trivial | omega | (intro hg; simp only [Bool.and_eq_true, Bool.or_eq_true, Bool.not_eq_true', Bool.and_eq_false_iff, Bool.or_eq_false_iff, Bool.not_eq_false', decide_eq_true_eq, decide_eq_false_iff_not, eqNil] at hg; omega) )
          refine aOps_store (v := bufV 5 tb2) (by rfl) (by rfl) (o3 _ _ (bufAt o1 (AHeap.set_same _ _ _))) sz23 hlv2 (by cases tb2 <;> rfl) (by cases tb2 <;> simp [bufV]) (Nat.zero_le _) (by cases tb2 <;> rfl) ?_
          rw [show (bufV 5 tb2).cells = [bufV 5 tb2] by cases tb2 <;> rfl]
          simp only [setAt, List.set_cons_zero, List.set_cons_succ]
          simp (decide := true) only [aOps_nil, putD, Slots.keep, if_true, if_false]
          repeat (with_reducible refine And.intro ?_ ?_; · first | trivial | omega | (intro hg; simp only [Bool.and_eq_true, Bool.or_eq_true, Bool.not_eq_true', Bool.and_eq_false_iff, Bool.or_eq_false_iff, Bool.not_eq_false', decide_eq_true_eq, decide_eq_false_iff_not, eqNil] at hg; omega) )
          apply hK; clear hK K
          have j1 : ScInv kx B1 tb2 (l1 ++ [tokAt c j t]) := ⟨i1.hk, fun d => by have := bufOkSet o1 (AHeap.set_same _ _ _) d; rwa [AHeap.set_set] at this, by rw [o2, List.map_append]; rfl⟩
          have hfor : Sub (scH kx B1 tb2 c.left c.text mv j) (h12.set kx ⟨[.bool c.left, .str c.text, mv, .int .i64 j, bufV 5 tb2], 0⟩) := by
            have := Sub.set_both o3 kx ⟨[.bool c.left, .str c.text, mv, .int .i64 j, bufV 5 tb2], 0⟩
            rw [bufSet o1 (AHeap.set_same _ _ _), AHeap.set_set] at this
            exact this
          refine Awp.forget (h' := scH kx B1 tb2 c.left c.text mv j) hfor ?_
          have r13 := fun o => rd_own w₀ (j1.at (lf := c.left) (s := c.text) (mv := mv) (i := j)) o
          -- region 13  tokens.go:218
          refine awp_r [0, 2] (by rfl) ?_
          simp (decide := true) only [ev, putD, Slots.put, Slots.get, if_true, if_false, true_and, ↓ap_move, pop_move, ↓ap_nilCheck, pop_nilCheck, pNil_ptr, ↓ap_fieldAddr, pop_fieldAddr, fa71_1, ↓ap_loadL, apL_mk, pLoad_one ag3, ↓ap_binOp, pop_binOp, isNilC_tmp, cond_false, pBinX_int, pI_add, List.getD_cons_zero, List.getD_cons_succ, Nat.zero_add, lv_int, faultA, r13]
          try simp (disch := omega) only [wrap_i64]
          repeat (with_reducible refine And.intro ?_ ?_; · first | trivial | omega | (intro hg; simp only [Bool.and_eq_true, Bool.or_eq_true, Bool.not_eq_true', Bool.and_eq_false_iff, Bool.or_eq_false_iff, Bool.not_eq_false', decide_eq_true_eq, decide_eq_false_iff_not, eqNil] at hg; omega) )
          refine aOps_store (v := .int .i64 ((j : Int) + t.n)) (by rfl) (by rfl) j1.at sz3 (by rfl) (by rfl) (by simp) (Nat.zero_le _) (by rfl) ?_
          simp only [setAt, AVal.cells, List.set_cons_zero, List.set_cons_succ]
          rw [j1.set, show (j : Int) + (t.n : Int) = ((j + t.n : Nat) : Int) by omega]
          simp (decide := true) only [aOps_nil, putD, Slots.keep, if_true, if_false]
          repeat (with_reducible refine And.intro ?_ ?_; · first | trivial | omega | (intro hg; simp only [Bool.and_eq_true, Bool.or_eq_true, Bool.not_eq_true', Bool.and_eq_false_iff, Bool.or_eq_false_iff, Bool.not_eq_false', decide_eq_true_eq, decide_eq_false_iff_not, eqNil] at hg; omega) )
          try simp only [thenA_normal, inBlockA_normal]
          exact ⟨⟨j + t.n, l1 ++ [tokAt c j t], tb2⟩, rfl, Sub.refl _, ⟨j1, hn1, hstep.symm, by simp only [List.length_append, List.length_cons, List.length_nil]; omega⟩, by simp only; omega⟩
    · try simp only [decide_eq_false_iff_not] at hb2
      refine awp_exit ?_
      change Awp _ _ _ _ _ _ _
      have hjge : ¬ j < c.text.length := by simpa using hb2
      obtain ⟨H1, hH1⟩ : ∃ H1, H1 = scH kx B1 tb1 c.left c.text mv j := ⟨_, rfl⟩
      have eb_0q0 : H1 k0q0 = some ⟨[.int .i64 0, .int .i64 0, .int .i64 0], 0⟩ := by rw [hH1]; exact i1.other hB1k
      have hs_H1 : Sub B H1 := by rw [hH1]; exact hB1s.trans i1.above
      rw [if_pos (by omega)] at hstep
      show Awp _ _ _ _ _ _ (scH kx B1 tb1 c.left c.text mv j)
      rw [← hH1]
      -- region 14  tokens.go:220
      refine awp_rseq [2] (by rfl) fun K hK => ?_
      simp (decide := true) only [ev, absV, absS, putD, Slots.put, Slots.get, if_false, true_and, ↓ap_build, ↓pop_buildL, bld28_, evP, List.map_nil]
      repeat (with_reducible refine And.intro ?_ ?_; · first | trivial | omega | (intro hg; simp only [Bool.and_eq_true, Bool.or_eq_true, Bool.not_eq_true', Bool.and_eq_false_iff, Bool.or_eq_false_iff, Bool.not_eq_false', decide_eq_true_eq, decide_eq_false_iff_not, eqNil] at hg; omega) )
      refine aOps_store (by rfl) (by rfl) (by repeat (first | exact AHeap.set_same _ _ _ | assumption | refine (AHeap.set_ne _ _ (by first | assumption | exact Ne.symm (by assumption))).trans ?_)) sz28 (by rfl) (by rfl) (by first | exact Nat.le_refl _ | decide | (simp; done) | (simp; omega)) (Nat.zero_le _) (by rfl) ?_
      simp only [AVal.cells]
      simp (decide := true) only [aOps_nil, ev, putD, Slots.get, Slots.keep, if_true, if_false, setAt, List.set_cons_zero, List.set_cons_succ, Nat.zero_add, Nat.reduceAdd]
      repeat (with_reducible refine And.intro ?_ ?_; · first | trivial | omega | (intro hg; simp only [Bool.and_eq_true, Bool.or_eq_true, Bool.not_eq_true', Bool.and_eq_false_iff, Bool.or_eq_false_iff, Bool.not_eq_false', decide_eq_true_eq, decide_eq_false_iff_not, eqNil] at hg; omega) )
      apply hK; clear hK K
      refine awp_ret ?_
      try simp only [thenA_ret, inBlockA_ret]
      refine retA_retE (?_) ?_
      · simp (decide := true) only [resPre, resV_cell, Slots.get, if_true, and_true, resV_cell, pLoad_agg ag28 sz28, rd_set, cellsAt, List.getD_cons_zero, List.getD_cons_succ, Nat.zero_add, Nat.reduceAdd, lv_int, allLive, Bool.and_true, cellsAt, List.getD_cons_zero, List.getD_cons_succ, Nat.zero_add, Nat.reduceAdd, lv_int, allLive, Bool.and_true]
      
      simp (decide := true) only [Slots.get, if_true, resOfG_one, resV_cell, pLoad_agg ag28 sz28, rd_set, cellsAt, List.getD_cons_zero, List.getD_cons_succ, Nat.zero_add, Nat.reduceAdd, lv_int, allLive, Bool.and_true, cellsAt, List.getD_cons_zero, List.getD_cons_succ, Nat.zero_add, Nat.reduceAdd, lv_int, allLive, Bool.and_true, faultA]
      have hSB : Sub (scH kx B tb1 c.left c.text mv j) H1 := by rw [hH1]; exact scH_sub hB1s
      have hz0 : (scH kx B tb1 c.left c.text mv j) k0q0 = none := i1.none hB1k a4
      rw [hstep]
      exact ⟨scH kx B tb1 c.left c.text mv j, (by repeat (first | exact Sub.refl _ | assumption | refine Sub.set_both ?_ _ _ | refine Sub.trans_set ?_ (by repeat (first | assumption | refine (AHeap.set_ne _ _ (by first | assumption | exact Ne.symm (by assumption))).trans ?_)))), rfl, i4, tb1, j, rfl, i1.down hB1s⟩
end Go.Proofs.YtmadddihphkmoaaDoor

/-
  Contracts: the reader of the package columns: take, walked.
  Conditions: none.
-/
namespace Go.Proofs.YtmadddihphkmoaaDoor
open Go.AM
open Go.Proofs
open Go.Col
set_option maxRecDepth 100000

theorem addE_last {x : Rd} {l : List CardC} {c : CardC} (hx : x.cards = l ++ [c]) (line col : Int) (t : Str) : addE x line col t = ⟨l ++ [addC c line col t], line, col, oddQ (c.text ++ t)⟩ := by
  unfold addE
  rw [hx]
  simp
theorem bufV_some (es : Nat) (b : Buf) : bufV es (some b) = .slice (.own b.blk) 0 (b.cells.length / es) (.grow es) := rfl
/-- A part behind the last card, in the reader's heap. -/
theorem c_addR (w₀ : World) (h : AHeap) (kx : Nat) (B M : AHeap) (cb mb : Option Buf) (x : Rd) (hi : RdInv w₀ h kx B M cb mb x) (hx : x.cards ≠ []) (line col : Int) (t : Str) (hb : ∀ c ∈ x.cards, c.text.length ≤ 549755813888 ∧ c.marks.length ≤ 549755813888) (hn : x.cards.length ≤ 549755813888) (ht : t.length ≤ 80) :
    ACall Tryd.prog w₀ 41 [.ptr (.own kx) 0, .int .i64 line, .int .i64 col, .str t] (rdH kx B cb mb x)
      (fun v h' => v = .tuple [] ∧ ∃ cb' mb', h' = rdH kx B cb' mb' (addE x line col t) ∧ RdInv w₀ h kx B M cb' mb' (addE x line col t)) := by
  rcases hi.cards with ⟨c1, _⟩ | ⟨done, c, kc, c1, c2, c3, c4⟩
  · exact absurd c1 hx
  have hD : ((done.map cell3).flatten).length = done.length * 3 := by
    rw [flatten_len (es := 3) (by intro y hy; obtain ⟨p, _, rfl⟩ := List.mem_map.1 hy; rfl), List.length_map]
  have hlen : x.cards.length = done.length + 1 := by rw [c1]; simp
  have hcm : c ∈ x.cards := by rw [c1]; simp
  obtain ⟨b1, b2⟩ := hb c hcm
  have hokc := hi.okc
  have hokm := hi.okm
  have hL : ((done.map cell3).flatten ++ [.bool c.left, .str c.text, bufV 3 mb]).length / 3 = done.length + 1 := by
    rw [List.length_append, hD]
    simp only [List.length_cons, List.length_nil]
    omega
  have hv : bufV 3 cb = .slice (.own kc) 0 (done.length + 1) (.grow 3) := by
    rw [c2, bufV_some, hL]
  subst c2
  have hkc : kc ≠ kx := fun e => by
    have := hokc.1
    simp only [e, AHeap.set_same] at this
    cases this
  have hBc : B kc = none := by
    have := hokc.1
    rwa [AHeap.set_ne _ _ hkc] at this
  have call := c_add w₀ (bufH (B.set kx ⟨rdCells (some ⟨kc, (done.map cell3).flatten ++ [.bool c.left, .str c.text, bufV 3 mb]⟩) x, 0⟩) (some ⟨kc, (done.map cell3).flatten ++ [.bool c.left, .str c.text, bufV 3 mb]⟩)) kx kc (done.map cell3).flatten done.length mb c x.line x.col x.odd line col t
    (by rw [show bufH (B.set kx ⟨rdCells (some ⟨kc, (done.map cell3).flatten ++ [.bool c.left, .str c.text, bufV 3 mb]⟩) x, 0⟩) (some ⟨kc, (done.map cell3).flatten ++ [.bool c.left, .str c.text, bufV 3 mb]⟩) = (B.set kx ⟨rdCells (some ⟨kc, (done.map cell3).flatten ++ [.bool c.left, .str c.text, bufV 3 mb]⟩) x, 0⟩).set kc ⟨(done.map cell3).flatten ++ [.bool c.left, .str c.text, bufV 3 mb], 0⟩ from rfl, AHeap.set_ne _ _ hkc.symm, AHeap.set_same]; unfold rdCells; rw [hv])
    (AHeap.set_same _ _ _) hD hokm c3 (by omega) (by omega) (by omega)
  refine call.mono fun v h' hr => ?_
  obtain ⟨e1, mb', e2, o1, o2⟩ := hr
  have hadd := addE_last c1 line col t
  have hL' : ((done.map cell3).flatten ++ [.bool c.left, .str (addC c line col t).text, bufV 3 mb']).length / 3 = done.length + 1 := by
    rw [List.length_append, hD]
    simp only [List.length_cons, List.length_nil]
    omega
  have hcells : rdCells (some ⟨kc, (done.map cell3).flatten ++ [.bool c.left, .str (addC c line col t).text, bufV 3 mb']⟩) (addE x line col t) = [.slice (.own kc) 0 (done.length + 1) (.grow 3), .int .i64 line, .int .i64 col, .bool (oddQ (c.text ++ t))] := by
    unfold rdCells
    rw [hadd, bufV_some, hL']
  have hH : (((bufH (B.set kx ⟨rdCells (some ⟨kc, (done.map cell3).flatten ++ [.bool c.left, .str c.text, bufV 3 mb]⟩) x, 0⟩) (some ⟨kc, (done.map cell3).flatten ++ [.bool c.left, .str c.text, bufV 3 mb]⟩)).set kx ⟨[.slice (.own kc) 0 (done.length + 1) (.grow 3), .int .i64 line, .int .i64 col, .bool (oddQ (c.text ++ t))], 0⟩).set kc ⟨(done.map cell3).flatten ++ [.bool c.left, .str (addC c line col t).text, bufV 3 mb'], 0⟩)
      = bufH (B.set kx ⟨rdCells (some ⟨kc, (done.map cell3).flatten ++ [.bool c.left, .str (addC c line col t).text, bufV 3 mb']⟩) (addE x line col t), 0⟩) (some ⟨kc, (done.map cell3).flatten ++ [.bool c.left, .str (addC c line col t).text, bufV 3 mb']⟩) := by
    rw [hcells]
    simp only [bufH]
    rw [AHeap.set_comm _ _ _ hkc.symm, AHeap.set_set, AHeap.set_set]
  rw [hH] at e2 o1
  refine ⟨e1, _, mb', e2, ⟨hi.sub, hi.subM, hi.hk, ?_, o1, .inr ⟨done, addC c line col t, kc, by rw [hadd], ?_, o2, c4⟩⟩⟩
  · refine ⟨(AHeap.set_ne _ _ hkc).trans hBc, ?_, ?_⟩
    · rw [List.length_append, hD]
      simp only [List.length_cons, List.length_nil]
      omega
    · have hlv := hokc.2.2
      rw [allLive_append, Bool.and_eq_true] at hlv ⊢
      refine ⟨hlv.1, ?_⟩
      show (true && (true && ((bufV 3 mb').live && true))) = true
      rw [bufV_live]
      rfl
  · have hleft : (addC c line col t).left = c.left := rfl
    rw [hleft]

theorem bufPut {H : AHeap} {es : Nat} {b : Option Buf} {j : Nat} {c d : Blk} (hb : bufOk (H.set j c) es b) : bufH (H.set j d) b = (bufH H b).set j d ∧ bufOk H es b ∧ bufH H b j = H j := by
  cases b with
  | none => exact ⟨rfl, trivial, rfl⟩
  | some b =>
    have hne : b.blk ≠ j := fun e => by
      have := hb.1
      rw [e, AHeap.set_same] at this
      cases this
    have h1 : H b.blk = none := by have := hb.1; rwa [AHeap.set_ne _ _ hne] at this
    exact ⟨AHeap.set_comm _ _ _ hne, ⟨h1, hb.2⟩, AHeap.set_ne _ _ hne.symm⟩
theorem RdInv.chunks {w₀ : World} {h : AHeap} {kx : Nat} {B M : AHeap} {cb mb : Option Buf} {x : Rd} (hi : RdInv w₀ h kx B M cb mb x) : ∃ zs : List (List AVal), bufC cb = zs.flatten ∧ (∀ z ∈ zs, z.length = 3) ∧ zs.length = x.cards.length := by
  rcases hi.cards with ⟨c1, c2, _⟩ | ⟨done, c, kc, c1, c2, c3, c4⟩
  · exact ⟨[], by rw [c2]; rfl, by simp, by rw [c1]; rfl⟩
  · refine ⟨done.map cell3 ++ [[.bool c.left, .str c.text, bufV 3 mb]], by rw [c2]; simp [bufC], ?_, by rw [c1]; simp⟩
    intro z hz
    rw [List.mem_append] at hz
    rcases hz with hz | hz
    · obtain ⟨p, _, rfl⟩ := List.mem_map.1 hz; rfl
    · rw [List.mem_singleton.1 hz]; rfl
/-- A new card stands behind the others: the last card's marks are at rest. -/
theorem RdInv.push {w₀ : World} {h : AHeap} {kx : Nat} {B M : AHeap} {cb mb : Option Buf} {x : Rd} (hi : RdInv w₀ h kx B M cb mb x) (left : Bool) {cb' : Option Buf} {h5 : AHeap}
    (o1 : bufOk (bufH (B.set kx ⟨rdCells cb x, 0⟩) mb) 3 cb') (o2 : bufC cb' = bufC cb ++ [.bool left, .str [], .nilSlice]) (o3 : Sub (bufH (bufH (B.set kx ⟨rdCells cb x, 0⟩) mb) cb') h5) :
    RdInv w₀ h kx (bufH B mb) (bufH M mb) cb' none ⟨x.cards ++ [⟨left, [], []⟩], x.line, x.col, x.odd⟩ ∧ Sub (rdH kx (bufH B mb) cb' none ⟨x.cards ++ [⟨left, [], []⟩], x.line, x.col, x.odd⟩) (h5.set kx ⟨rdCells cb' ⟨x.cards ++ [⟨left, [], []⟩], x.line, x.col, x.odd⟩, 0⟩) ∧ (∀ j c, B j = some c → bufH B mb j = some c) ∧ ∀ j c, B j = some c → M j = none → bufH M mb j = none := by
  obtain ⟨q1, q2, q3⟩ := bufSwap hi.okc hi.okm
  obtain ⟨p1, p2, p3⟩ := bufPut (d := ⟨rdCells cb x, 0⟩) q2
  have hsub : Sub B (bufH B mb) := Sub.buf p2
  rw [p1] at o1 o3
  obtain ⟨r1, r2, r3⟩ := bufPut (d := ⟨rdCells cb' ⟨x.cards ++ [⟨left, [], []⟩], x.line, x.col, x.odd⟩, 0⟩) o1
  obtain ⟨s1, _, _⟩ := bufPut (d := ⟨rdCells cb x, 0⟩) o1
  have pM : bufOk M 3 mb := p2.sub hi.subM
  have hsubM : Sub M (bufH M mb) := Sub.buf pM
  have hMB : Sub (bufH M mb) (bufH B mb) := by
    cases mb with
    | none => exact hi.subM
    | some b => exact Sub.set_both hi.subM _ _
  refine ⟨⟨hi.sub.trans hsub, hMB, p3.trans hi.hk, ?_, trivial, .inr ?_⟩, ?_, fun j c hj => hsub _ _ hj, fun j c hj hM => ?_⟩
  · have := bufOkSet o1 (AHeap.set_same _ _ _) ⟨rdCells cb' ⟨x.cards ++ [⟨left, [], []⟩], x.line, x.col, x.odd⟩, 0⟩
    rwa [AHeap.set_set] at this
  · have hsome : ∃ kc, cb' = some ⟨kc, bufC cb ++ [.bool left, .str [], .nilSlice]⟩ := by
      cases cb' with
      | none => simp [bufC] at o2
      | some b => exact ⟨b.blk, by rw [← o2]; rfl⟩
    obtain ⟨kc', hcb'⟩ := hsome
    rcases hi.cards with ⟨c1, c2, c3⟩ | ⟨done, c, kc, c1, c2, c3, c4⟩
    · refine ⟨[], ⟨left, [], []⟩, kc', by rw [c1]; rfl, by rw [hcb', c2]; rfl, rfl, by simp⟩
    · refine ⟨done ++ [(c, bufV 3 mb)], ⟨left, [], []⟩, kc', by rw [c1]; simp, ?_, rfl, ?_⟩
      · rw [hcb', c2]
        simp [bufC, cell3, bufV]
      · intro p hp
        rw [List.mem_append] at hp
        rcases hp with hp | hp
        · exact (c4 p hp).mono hsubM
        · rw [List.mem_singleton.1 hp]
          exact IsL.buf pM (by decide) c3 (by intro y hy; obtain ⟨m, _, rfl⟩ := List.mem_map.1 hy; rfl) (Sub.refl _)
  · show Sub (bufH ((bufH B mb).set kx ⟨rdCells cb' ⟨x.cards ++ [⟨left, [], []⟩], x.line, x.col, x.odd⟩, 0⟩) cb') _
    rw [r1]
    rw [s1] at o3
    have := Sub.set_both o3 kx ⟨rdCells cb' ⟨x.cards ++ [⟨left, [], []⟩], x.line, x.col, x.odd⟩, 0⟩
    rwa [AHeap.set_set] at this
  · cases mb with
    | none => exact hM
    | some b =>
      have : j ≠ b.blk := fun e => by
        have := p2.1
        rw [← e, hj] at this
        cases this
      exact (AHeap.set_ne _ _ this).trans hM
end Go.Proofs.YtmadddihphkmoaaDoor

/-
  Contracts: the reader of the package columns: take, walked.
  Conditions: none.
-/
namespace Go.Proofs.YtmadddihphkmoaaDoor
open Go.AM
open Go.Proofs
open Go.Col
set_option maxRecDepth 100000

theorem take1 {x : Rd} {r : RowC} (h1 : r.more = false) (h2 : x.odd = true) : takeE x r = (x, ⟨4, x.line, x.col⟩) := by unfold takeE; rw [h1, h2]; rfl
theorem take2 {x : Rd} {r : RowC} (h1 : r.more = false) (h2 : x.odd = false) : takeE x r = (addE ⟨x.cards ++ [⟨decide (r.col < 12), [], []⟩], x.line, x.col, x.odd⟩ r.line r.col r.text, okF) := by unfold takeE; rw [h1, h2]; rfl
theorem take3 {x : Rd} {r : RowC} (h1 : r.more = true) (h2 : x.cards = []) : takeE x r = (x, ⟨6, r.line, 7⟩) := by unfold takeE; rw [h1, if_neg (by simp), if_neg (by simp), if_pos h2]
theorem take4 {x : Rd} {r : RowC} (h1 : r.more = true) (h2 : x.cards ≠ []) (h3 : r.col < 12 ∨ (x.odd = true ∧ r.text.getD 0 0 ≠ 34)) : takeE x r = (x, ⟨4, r.line, r.col⟩) := by unfold takeE; rw [h1, if_neg (by simp), if_neg (by simp), if_neg h2, if_pos h3]
theorem take5 {x : Rd} {r : RowC} (h1 : r.more = true) (h2 : x.cards ≠ []) (h3 : ¬ (r.col < 12 ∨ (x.odd = true ∧ r.text.getD 0 0 ≠ 34))) (h4 : x.odd = true) : takeE x r = (addE x r.line (r.col + 1) (r.text.drop 1), okF) := by unfold takeE; rw [h1, if_neg (by simp), if_neg (by simp), if_neg h2, if_neg h3, if_pos h4]
theorem take6 {x : Rd} {r : RowC} (h1 : r.more = true) (h2 : x.cards ≠ []) (h3 : ¬ (r.col < 12 ∨ (x.odd = true ∧ r.text.getD 0 0 ≠ 34))) (h4 : x.odd = false) : takeE x r = (addE x r.line r.col r.text, okF) := by unfold takeE; rw [h1, if_neg (by simp), if_neg (by simp), if_neg h2, if_neg h3, if_neg (by rw [h4]; decide)]
theorem c_take (w₀ : World) (h : AHeap) (kx : Nat) (B M : AHeap) (cb mb : Option Buf) (x : Rd) (hi : RdInv w₀ h kx B M cb mb x) (r : RowC) (hb : ∀ c ∈ x.cards, c.text.length ≤ 549755813887 ∧ c.marks.length ≤ 549755813887) (hn : x.cards.length ≤ 549755813887) (ht : r.text.length ≤ 80) (ht0 : r.text ≠ []) (hc0 : 0 ≤ r.col) (hc1 : r.col ≤ 80) :
    ACall Tryd.prog w₀ 24 [.ptr (.own kx) 0, rowA r] (rdH kx B cb mb x)
      (fun v h' => v = faultA (takeE x r).2 ∧ ∃ B' M' cb' mb', h' = rdH kx B' cb' mb' (takeE x r).1 ∧ RdInv w₀ h kx B' M' cb' mb' (takeE x r).1 ∧ Sub B B' ∧ ∀ j, B j ≠ none → M j = none → M' j = none) := by
  have hlvc := bufV_live 3 cb
  have hmany := hi.many
  have hlen := buf_len Tryd.prog Tryd.underlying44 3 cb
  rw [hmany] at hlen
  have htp : 0 < r.text.length := List.length_pos_iff.2 ht0
  refine acall_intro (n := 100) (rs := [.cell 4 28]) Tryd.func24 rfl rfl rfl rfl (Nat.le_of_ble_eq_true rfl) ?_
  simp only [initSlots]
  -- region 0  columns.go:102
  refine awp_rseq [0, 3, 4] (by rfl) fun K hK => ?_
  refine aOps_box (by rfl) (by rfl) (by rfl) fun k0q0 hk0q0 => ?_
  try have hf_0q0 : (rdH kx B cb mb x) k0q0 = none := by first | assumption | (simp only [AHeap.set_none] at hk0q0; simp only [hk0q0])
  skip
  refine aOps_alloc ze28 (cs := [.int .i64 0, .int .i64 0, .int .i64 0]) (by rfl) fun k0q1 hk0q1 => ?_
  have ne_0q1_0q0 : k0q1 ≠ k0q0 := by simp only [AHeap.set_none] at hk0q1; simp only [hk0q1, ne_eq, not_false_eq_true]
  try have hf_0q1 : (rdH kx B cb mb x) k0q1 = none := by first | assumption | (simp only [AHeap.set_none] at hk0q1; simp only [hk0q1])
  simp (decide := true) only [aOps_nil, ev, putD, Slots.put, Slots.get, Slots.keep, if_true, if_false, AVal.cells, Nat.zero_add, rowA]
  obtain ⟨a1, a2, a3, a4⟩ := rdH_new hi hk0q0 ⟨[.int .i64 r.line, .bool r.more, .str r.text, .int .i64 r.col], 0⟩
  have hk1' : rdH kx (B.set k0q0 ⟨[.int .i64 r.line, .bool r.more, .str r.text, .int .i64 r.col], 0⟩) cb mb x k0q1 = none := by rw [← a1]; exact hk0q1
  obtain ⟨b1, b2, b3, b4⟩ := rdH_new a2 hk1' ⟨[.int .i64 0, .int .i64 0, .int .i64 0], 0⟩
  have hheap : ((rdH kx B cb mb x).set k0q0 ⟨[.int .i64 r.line, .bool r.more, .str r.text, .int .i64 r.col], 0⟩).set k0q1 ⟨[.int .i64 0, .int .i64 0, .int .i64 0], 0⟩ = rdH kx ((B.set k0q0 ⟨[.int .i64 r.line, .bool r.more, .str r.text, .int .i64 r.col], 0⟩).set k0q1 ⟨[.int .i64 0, .int .i64 0, .int .i64 0], 0⟩) cb mb x := by rw [a1, b1]
  have hat : (((rdH kx B cb mb x).set k0q0 ⟨[.int .i64 r.line, .bool r.more, .str r.text, .int .i64 r.col], 0⟩).set k0q1 ⟨[.int .i64 0, .int .i64 0, .int .i64 0], 0⟩) kx = some ⟨rdCells cb x, 0⟩ := by rw [hheap]; exact b2.at
  have hrx := fun o => rd_own w₀ hat o
  apply hK; clear hK K
  refine awp_seq ?_
  refine awp_block ?_
  -- region 2  columns.go:104
  refine awp_rseq [0, 3, 4, 13] (by rfl) fun K hK => ?_
  simp (decide := true) only [aOps_nil, ev, absV, absS, putD, Slots.put, Slots.get, Slots.keep, if_true, if_false, true_and, ↓ap_fieldAddr, pop_fieldAddr, fa59_1, ↓ap_loadL, apL_mk, pLoad_one ag4, ↓ap_unOp, pop_unOp, pU_not, ↓ap_move, pop_move, ↓ag_move, agP, agQ_some, nthDst, gKnown_bool, guardB_bool_true, implies_true, ↓ag_nilCheck, pop_nilCheck, pNil_ptr, cv_nil, cp_nil, ↓ag_fieldAddr, fa56_2, cv_fieldAddr, cp_fieldAddr, ↓ag_loadL, agQL_some, agL_mk, agL_ld1, ↓ap_pick, pop_pick, pPick_bool, pickV_cond_l, pickV_and, ↓ap_assign, pop_assign, rd_ne', ne_eq, not_false_eq_true, ne_0q1_0q0.symm, rd_any, List.getD_cons_zero, List.getD_cons_succ, Nat.zero_add, lv_bool, hrx, rdCells]
  try simp (disch := omega) only [wrap_i64, wrap_u8]
  repeat (with_reducible refine And.intro ?_ ?_; · first | trivial | omega | (intro hg; simp only [Bool.and_eq_true, Bool.or_eq_true, Bool.not_eq_true', Bool.and_eq_false_iff, Bool.or_eq_false_iff, Bool.not_eq_false', decide_eq_true_eq, decide_eq_false_iff_not, eqNil] at hg; omega) )
  apply hK; clear hK K
  refine awp_cond (b := _) rfl (fun hb1 => ?_) (fun hb1 => ?_)
  · try simp only [Bool.not_eq_true', Bool.and_eq_true] at hb1
    -- region 3  columns.go:105
    refine awp_rseq [4] (by rfl) fun K hK => ?_
    simp (decide := true) only [ev, absV, absS, putD, Slots.put, Slots.get, if_true, if_false, true_and, ↓ap_move, pop_move, ↓ap_nilCheck, pop_nilCheck, pNil_ptr, ↓ap_fieldAddr, pop_fieldAddr, fa56_1, ↓ap_loadL, apL_mk, pLoad_agg ag26 sz26, ↓ap_build, ↓pop_buildL, bld28_0_1, evP, List.map_cons, List.map_nil, cellsAt, List.getD_cons_zero, List.getD_cons_succ, Nat.zero_add, Nat.reduceAdd, lv_int, allLive, Bool.and_true, hrx, rdCells]
    repeat (with_reducible refine And.intro ?_ ?_; · first | trivial | omega | (intro hg; simp only [Bool.and_eq_true, Bool.or_eq_true, Bool.not_eq_true', Bool.and_eq_false_iff, Bool.or_eq_false_iff, Bool.not_eq_false', decide_eq_true_eq, decide_eq_false_iff_not, eqNil] at hg; omega) )
    refine aOps_store (by rfl) (by rfl) (by repeat (first | exact AHeap.set_same _ _ _ | assumption | refine (AHeap.set_ne _ _ (by first | assumption | exact Ne.symm (by assumption))).trans ?_)) sz28 (by rfl) (by rfl) (by first | exact Nat.le_refl _ | decide | (simp; done) | (simp; omega)) (Nat.zero_le _) (by rfl) ?_
    simp only [AHeap.set_set, AVal.cells]
    simp (decide := true) only [aOps_nil, ev, putD, Slots.get, Slots.keep, if_true, if_false, setAt, List.set_cons_zero, List.set_cons_succ, Nat.zero_add, Nat.reduceAdd]
    repeat (with_reducible refine And.intro ?_ ?_; · first | trivial | omega | (intro hg; simp only [Bool.and_eq_true, Bool.or_eq_true, Bool.not_eq_true', Bool.and_eq_false_iff, Bool.or_eq_false_iff, Bool.not_eq_false', decide_eq_true_eq, decide_eq_false_iff_not, eqNil] at hg; omega) )
    apply hK; clear hK K
    refine awp_ret ?_
    try simp only [thenA_ret, inBlockA_ret]
    refine retA_ret (rdH kx B cb mb x) (by repeat (first | exact Sub.refl _ | assumption | refine Sub.trans_set ?_ (by assumption))) (?_) ?_
    · simp (decide := true) only [resPre, resV_cell, Slots.get, if_true, and_true, resV_cell, pLoad_agg ag28 sz28, rd_set, cellsAt, List.getD_cons_zero, List.getD_cons_succ, Nat.zero_add, Nat.reduceAdd, lv_int, allLive, Bool.and_true, cellsAt, List.getD_cons_zero, List.getD_cons_succ, Nat.zero_add, Nat.reduceAdd, lv_int, allLive, Bool.and_true]
    
    simp (decide := true) only [Slots.get, if_true, resOfG_one, resV_cell, pLoad_agg ag28 sz28, rd_set, cellsAt, List.getD_cons_zero, List.getD_cons_succ, Nat.zero_add, Nat.reduceAdd, lv_int, allLive, Bool.and_true, ne_eq, cellsAt, List.getD_cons_zero, List.getD_cons_succ, Nat.zero_add, Nat.reduceAdd, lv_int, allLive, Bool.and_true, faultA]
    rw [take1 hb1.1 hb1.2]
    exact ⟨rfl, B, M, cb, mb, rfl, hi, Sub.refl _, fun _ _ h => h⟩
  · try simp only [Bool.not_eq_false', Bool.and_eq_false_iff] at hb1
    -- region 4  columns.go:106
    refine awp_rseq [0, 3, 4, 28] (by rfl) fun K hK => ?_
    simp (decide := true) only [aOps_nil, ev, putD, Slots.put, Slots.get, Slots.keep, if_true, if_false, true_and, ↓ap_fieldAddr, pop_fieldAddr, fa59_1, ↓ap_loadL, apL_mk, pLoad_one ag4, ↓ap_unOp, pop_unOp, pU_not, ↓ap_assign, pop_assign, rd_ne', ne_eq, not_false_eq_true, ne_0q1_0q0.symm, rd_any, List.getD_cons_zero, List.getD_cons_succ, Nat.zero_add, lv_bool]
    try simp (disch := omega) only [wrap_i64, wrap_u8]
    repeat (with_reducible refine And.intro ?_ ?_; · first | trivial | omega | (intro hg; simp only [Bool.and_eq_true, Bool.or_eq_true, Bool.not_eq_true', Bool.and_eq_false_iff, Bool.or_eq_false_iff, Bool.not_eq_false', decide_eq_true_eq, decide_eq_false_iff_not, eqNil] at hg; omega) )
    apply hK; clear hK K
    refine awp_cond (b := _) rfl (fun hb2 => ?_) (fun hb2 => ?_)
    · try simp only [Bool.not_eq_true'] at hb2
      rw [hheap]
      obtain ⟨B₁, hB₁⟩ : ∃ B₁, B₁ = (B.set k0q0 ⟨[.int .i64 r.line, .bool r.more, .str r.text, .int .i64 r.col], 0⟩).set k0q1 ⟨[.int .i64 0, .int .i64 0, .int .i64 0], 0⟩ := ⟨_, rfl⟩
      rw [← hB₁] at b2 ⊢
      have e0 : B₁ k0q0 = some ⟨[.int .i64 r.line, .bool r.more, .str r.text, .int .i64 r.col], 0⟩ := by rw [hB₁, AHeap.set_ne _ _ ne_0q1_0q0.symm, AHeap.set_same]
      have e1 : B₁ k0q1 = some ⟨[.int .i64 0, .int .i64 0, .int .i64 0], 0⟩ := by rw [hB₁, AHeap.set_same]
      have s0 := fun o => rd_own w₀ (b2.other e0) o
      have sx := fun o => rd_own w₀ b2.at o
      obtain ⟨q1, q2, q3⟩ := bufSwap b2.okc b2.okm
      obtain ⟨zs, z1, z2, z3⟩ := b2.chunks
      -- region 5  columns.go:107
      refine awp_dseq_F 10 [0] [0, 3, 4] mixed (by kernel_rfl) (by rfl) fun K hK => ?_
      simp only [List.take_succ_cons, List.take_zero, List.drop_succ_cons, List.drop_zero]
      simp (decide := true) only [ev, absV, absS, putD, Slots.put, Slots.get, if_true, if_false, true_and, ↓fp_move, pop_move, ↓fp_nilCheck, pop_nilCheck, pNil_ptr, ↓fp_fieldAddr, pop_fieldAddr, fa56_0, ↓fp_load, pop_load, pLoad_one ag44, fa59_3, pLoad_one ag3, ↓fp_binOp, pop_binOp, isNilC_int, cond_false, pBinX_int, pI_lss, ↓fp_build, ↓pop_buildL, bld68_0, evP, List.map_cons, List.map_nil, List.getD_cons_zero, List.getD_cons_succ, Nat.zero_add, lv_int, rdCells, hlvc, s0, sx]
      repeat (with_reducible refine And.intro ?_ ?_; · first | trivial | omega | (intro hg; simp only [Bool.and_eq_true, Bool.or_eq_true, Bool.not_eq_true', Bool.and_eq_false_iff, Bool.or_eq_false_iff, Bool.not_eq_false', decide_eq_true_eq, decide_eq_false_iff_not, eqNil] at hg; omega) )
      refine fOps_lay (by rfl) ?_
      refine aOps_buildSlice (cs := [.bool (decide (r.col < 12)), .str [], .nilSlice]) (by kernel_rfl) fun k5q9 hk5q9 => ?_
      try have hf_5q9 : (rdH kx B cb mb x) k5q9 = none := by first | assumption | (simp only [AHeap.set_none] at hk5q9; simp only [hk5q9])
      rw [aOps_nil]
      repeat (with_reducible refine And.intro ?_ ?_; · first | trivial | omega | (intro hg; simp only [Bool.and_eq_true, Bool.or_eq_true, Bool.not_eq_true', Bool.and_eq_false_iff, Bool.or_eq_false_iff, Bool.not_eq_false', decide_eq_true_eq, decide_eq_false_iff_not, eqNil] at hg; omega) )
      try simp only [fOps_nil]
      refine aOps_appendL (es := 3) (zs := zs) (xs := [[.bool (decide (r.col < 12)), .str [], .nilSlice]]) (h₀ := bufH (B₁.set kx ⟨rdCells cb x, 0⟩) mb) (b := cb) (by rfl) (by rfl) Tryd.underlying44 Tryd.underlying44 (fun k e => by cases e) sz68 by68 ze68 (by rfl) (by decide) (by rfl) q3 z1 z2 (by rw [← q1]; exact Sub.set hk5q9) (by rfl) (IsL.own (AHeap.set_same _ _ _) (by simp) (by rfl) (by rfl) (.exact 1) (Nat.le_refl _)) (by rfl) (by simp; omega) (by simp; omega) fun cb' h5 o1 o2 o3 => ?_
      have hlv' := bufV_live 3 cb'
      simp (decide := true) only [ev, putD, Slots.put, Slots.get, if_true, if_false, true_and, ↓ap_nilCheck, pop_nilCheck, pNil_ptr, ↓ap_fieldAddr, pop_fieldAddr, fa56_0, Nat.zero_add]
      repeat (with_reducible refine And.intro ?_ ?_; · first | trivial | omega | (intro hg; simp only [Bool.and_eq_true, Bool.or_eq_true, Bool.not_eq_true', Bool.and_eq_false_iff, Bool.or_eq_false_iff, Bool.not_eq_false', decide_eq_true_eq, decide_eq_false_iff_not, eqNil] at hg; omega) )
      refine aOps_store (v := bufV 3 cb') (by rfl) (by rfl) (o3 _ _ (bufAt o1 (bufAt q2 (AHeap.set_same _ _ _)))) sz44 hlv' (by cases cb' <;> rfl) (by cases cb' <;> simp [rdCells, bufV]) (Nat.zero_le _) (by cases cb' <;> rfl) ?_
      rw [show (bufV 3 cb').cells = [bufV 3 cb'] by cases cb' <;> rfl]
      simp only [setAt, rdCells, List.set_cons_zero]
      simp (decide := true) only [aOps_nil, putD, Slots.keep, if_true, if_false]
      repeat (with_reducible refine And.intro ?_ ?_; · first | trivial | omega | (intro hg; simp only [Bool.and_eq_true, Bool.or_eq_true, Bool.not_eq_true', Bool.and_eq_false_iff, Bool.or_eq_false_iff, Bool.not_eq_false', decide_eq_true_eq, decide_eq_false_iff_not, eqNil] at hg; omega) )
      apply hK; clear hK K
      obtain ⟨i1, u1, u2, u3⟩ := b2.push (decide (r.col < 12)) o1 (by rw [o2, List.flatten_append, ← z1]; rfl) o3
      refine Awp.forget (h' := rdH kx (bufH B₁ mb) cb' none ⟨x.cards ++ [⟨decide (r.col < 12), [], []⟩], x.line, x.col, x.odd⟩) u1 ?_
      have t0 := fun o => rd_own w₀ (i1.other (u2 _ _ e0)) o
      have hb' : ∀ c ∈ x.cards ++ [⟨decide (r.col < 12), [], []⟩], c.text.length ≤ 549755813888 ∧ c.marks.length ≤ 549755813888 := by
        intro c hc
        rw [List.mem_append] at hc
        rcases hc with hc | hc
        · have := hb c hc
          omega
        · rw [List.mem_singleton.1 hc]
          exact ⟨by simp, by simp⟩
      -- region 6  columns.go:108
      refine awp_r [4] (by rfl) ?_
      simp (decide := true) only [ev, putD, Slots.put, Slots.get, if_true, if_false, true_and, ↓ap_move, pop_move, ↓ap_fieldAddr, pop_fieldAddr, fa59_0, ↓ap_loadL, apL_mk, pLoad_one ag3, fa59_3, fa59_2, pLoad_one ag9, ne_eq, List.getD_cons_zero, List.getD_cons_succ, Nat.zero_add, lv_int, lv_str, faultA, t0]
      repeat (with_reducible refine And.intro ?_ ?_; · first | trivial | omega | (intro hg; simp only [Bool.and_eq_true, Bool.or_eq_true, Bool.not_eq_true', Bool.and_eq_false_iff, Bool.or_eq_false_iff, Bool.not_eq_false', decide_eq_true_eq, decide_eq_false_iff_not, eqNil] at hg; omega) )
      refine aOps_call (by rfl) (by rfl) (c_addR w₀ h kx _ _ cb' none _ i1 (by simp) r.line r.col r.text hb' (by simp; omega) ht) fun x6q7 h6q7 hx6q7 => ?_
      obtain ⟨-, cb2, mb2, rfl, i2⟩ := hx6q7
      have hz := i2.other (u2 _ _ e1)
      have hsB : Sub B (bufH B₁ mb) := fun j c hj => u2 _ _ (by rw [hB₁]; exact Sub.trans_set (Sub.trans_set (Sub.refl _) a4) (by rwa [AHeap.set_ne _ _ ne_0q1_0q0] at b4) j c hj)
      have hsM : ∀ j, B j ≠ none → M j = none → bufH M mb j = none := fun j hj hM => by
        cases hjc : B j with
        | none => exact absurd hjc hj
        | some c => exact u3 j c (by rw [hB₁]; exact Sub.trans_set (Sub.trans_set (Sub.refl _) a4) (by rwa [AHeap.set_ne _ _ ne_0q1_0q0] at b4) j c hjc) hM
      have hfin := take2 (x := x) (r := r) (by simpa using hb2) (by simpa [hb2] using hb1)
      simp (decide := true) only [aOps_nil, putD, Slots.put, Slots.keep, if_true, if_false]
      repeat (with_reducible refine And.intro ?_ ?_; · first | trivial | omega | (intro hg; simp only [Bool.and_eq_true, Bool.or_eq_true, Bool.not_eq_true', Bool.and_eq_false_iff, Bool.or_eq_false_iff, Bool.not_eq_false', decide_eq_true_eq, decide_eq_false_iff_not, eqNil] at hg; omega) )
      change Awp _ _ _ _ _ _ _
      -- region 13  columns.go:118
      refine awp_rseq [4] (by rfl) fun K hK => ?_
      simp (decide := true) only [ev, absV, absS, putD, Slots.put, Slots.get, if_false, true_and, ↓ap_build, ↓pop_buildL, bld28_, evP, List.map_nil]
      repeat (with_reducible refine And.intro ?_ ?_; · first | trivial | omega | (intro hg; simp only [Bool.and_eq_true, Bool.or_eq_true, Bool.not_eq_true', Bool.and_eq_false_iff, Bool.or_eq_false_iff, Bool.not_eq_false', decide_eq_true_eq, decide_eq_false_iff_not, eqNil] at hg; omega) )
      refine aOps_store (v := .agg [.int .i64 0, .int .i64 0, .int .i64 0]) (by rfl) (by rfl) hz sz28 (by rfl) (by rfl) (by simp []) (Nat.zero_le _) (by rfl) ?_
      simp only [setAt, AVal.cells, List.set_cons_zero, List.set_cons_succ, Nat.zero_add, Nat.reduceAdd]
      rw [set_same_self hz]
      simp (decide := true) only [aOps_nil, putD, Slots.keep, if_true, if_false]
      repeat (with_reducible refine And.intro ?_ ?_; · first | trivial | omega | (intro hg; simp only [Bool.and_eq_true, Bool.or_eq_true, Bool.not_eq_true', Bool.and_eq_false_iff, Bool.or_eq_false_iff, Bool.not_eq_false', decide_eq_true_eq, decide_eq_false_iff_not, eqNil] at hg; omega) )
      apply hK; clear hK K
      refine awp_ret ?_
      try simp only [thenA_ret, inBlockA_ret]
      refine retA_retE (?_) ?_
      · simp (decide := true) only [resPre, resV_cell, Slots.get, if_true, and_true, resV_cell, pLoad_agg ag28 sz28, cellsAt, List.getD_cons_zero, List.getD_cons_succ, Nat.zero_add, Nat.reduceAdd, lv_int, allLive, Bool.and_true, cellsAt, List.getD_cons_zero, List.getD_cons_succ, Nat.zero_add, Nat.reduceAdd, lv_int, allLive, Bool.and_true, rd_own w₀ hz]
      
      simp (decide := true) only [Slots.get, if_true, resOfG_one, resV_cell, pLoad_agg ag28 sz28, cellsAt, List.getD_cons_zero, List.getD_cons_succ, Nat.zero_add, Nat.reduceAdd, lv_int, allLive, Bool.and_true, cellsAt, List.getD_cons_zero, List.getD_cons_succ, Nat.zero_add, Nat.reduceAdd, lv_int, allLive, Bool.and_true, rd_own w₀ hz]
      refine ⟨_, Sub.refl _, ?_⟩
      rw [hfin]
      exact ⟨rfl, _, _, _, _, rfl, i2, hsB, hsM⟩
    · try simp only [Bool.not_eq_false'] at hb2
      -- region 7  columns.go:109
      refine awp_rseq [0, 3, 4, 53] (by rfl) fun K hK => ?_
      simp (decide := true) only [aOps_nil, ev, absV, absS, putD, Slots.put, Slots.get, Slots.keep, if_true, if_false, true_and, ↓ap_move, pop_move, ↓ap_nilCheck, pop_nilCheck, pNil_ptr, ↓ap_fieldAddr, pop_fieldAddr, fa56_0, ↓ap_loadL, apL_mk, pLoad_one ag44, ↓ap_len, pop_len, ↓ap_binOp, pop_binOp, isNilC_int, cond_false, pBinX_int, pI_eql, ↓ap_assign, pop_assign, List.getD_cons_zero, Nat.zero_add, hrx, rdCells, hlvc, hlen]
      repeat (with_reducible refine And.intro ?_ ?_; · first | trivial | omega | (intro hg; simp only [Bool.and_eq_true, Bool.or_eq_true, Bool.not_eq_true', Bool.and_eq_false_iff, Bool.or_eq_false_iff, Bool.not_eq_false', decide_eq_true_eq, decide_eq_false_iff_not, eqNil] at hg; omega) )
      apply hK; clear hK K
      refine awp_cond (b := _) rfl (fun hb3 => ?_) (fun hb3 => ?_)
      · try simp only [decide_eq_true_eq] at hb3
        -- region 8  columns.go:110
        refine awp_rseq [4] (by rfl) fun K hK => ?_
        simp (decide := true) only [ev, putD, Slots.put, Slots.get, if_true, if_false, true_and, ↓ap_fieldAddr, pop_fieldAddr, fa59_0, ↓ap_loadL, apL_mk, pLoad_one ag3, rd_ne', ne_eq, not_false_eq_true, ne_0q1_0q0.symm, rd_any, List.getD_cons_zero, Nat.zero_add, lv_int]
        repeat (with_reducible refine And.intro ?_ ?_; · first | trivial | omega | (intro hg; simp only [Bool.and_eq_true, Bool.or_eq_true, Bool.not_eq_true', Bool.and_eq_false_iff, Bool.or_eq_false_iff, Bool.not_eq_false', decide_eq_true_eq, decide_eq_false_iff_not, eqNil] at hg; omega) )
        refine aOps_callV (V := faultA ⟨6, r.line, 7⟩) (by rfl) (by rfl) (c_fault w₀ _ 6 r.line 7) ?_
        refine aOps_store (by rfl) (by rfl) (by repeat (first | exact AHeap.set_same _ _ _ | assumption | refine (AHeap.set_ne _ _ (by first | assumption | exact Ne.symm (by assumption))).trans ?_)) sz28 (by rfl) (by rfl) (by first | exact Nat.le_refl _ | decide | (simp; done) | (simp; omega)) (Nat.zero_le _) (by rfl) ?_
        simp only [AHeap.set_set, AVal.cells]
        simp (decide := true) only [aOps_nil, ev, putD, Slots.put, Slots.get, Slots.keep, if_true, if_false, setAt, List.set_cons_zero, List.set_cons_succ, Nat.zero_add, Nat.reduceAdd, faultA]
        repeat (with_reducible refine And.intro ?_ ?_; · first | trivial | omega | (intro hg; simp only [Bool.and_eq_true, Bool.or_eq_true, Bool.not_eq_true', Bool.and_eq_false_iff, Bool.or_eq_false_iff, Bool.not_eq_false', decide_eq_true_eq, decide_eq_false_iff_not, eqNil] at hg; omega) )
        apply hK; clear hK K
        refine awp_ret ?_
        try simp only [thenA_ret, inBlockA_ret]
        refine retA_ret (rdH kx B cb mb x) (by repeat (first | exact Sub.refl _ | assumption | refine Sub.trans_set ?_ (by assumption))) (?_) ?_
        · simp (decide := true) only [resPre, resV_cell, Slots.get, if_true, and_true, resV_cell, pLoad_agg ag28 sz28, rd_set, cellsAt, List.getD_cons_zero, List.getD_cons_succ, Nat.zero_add, Nat.reduceAdd, lv_int, allLive, Bool.and_true, cellsAt, List.getD_cons_zero, List.getD_cons_succ, Nat.zero_add, Nat.reduceAdd, lv_int, allLive, Bool.and_true]
        
        simp (decide := true) only [Slots.get, if_true, resOfG_one, resV_cell, pLoad_agg ag28 sz28, rd_set, cellsAt, List.getD_cons_zero, List.getD_cons_succ, Nat.zero_add, Nat.reduceAdd, lv_int, allLive, Bool.and_true, ne_eq, cellsAt, List.getD_cons_zero, List.getD_cons_succ, Nat.zero_add, Nat.reduceAdd, lv_int, allLive, Bool.and_true, faultA]
        rw [take3 (by simpa using hb2) (List.eq_nil_of_length_eq_zero (by omega))]
        exact ⟨rfl, B, M, cb, mb, rfl, hi, Sub.refl _, fun _ _ h => h⟩
      · try simp only [decide_eq_false_iff_not] at hb3
        have hm : r.more = true := by simpa using hb2
        have hne : x.cards ≠ [] := fun e => hb3 (by rw [e]; rfl)
        -- region 9  columns.go:111
        refine awp_rseq [0, 3, 4, 63] (by rfl) fun K hK => ?_
        simp (decide := true) only [aOps_nil, ev, absV, absS, putD, Slots.put, Slots.get, Slots.keep, if_true, if_false, true_and, ↓ap_fieldAddr, pop_fieldAddr, fa59_3, ↓ap_loadL, apL_mk, pLoad_one ag3, ↓ap_binOp, pop_binOp, isNilC_int, cond_false, pBinX_int, pI_lss, ↓ap_move, pop_move, ↓ag_move, agP, agQ_some, nthDst, gKnown_bool, gKnown_cond, guardB_cond, guardB_bool_true, guardB_bool_false, cv_cv, implies_true, ↓ag_nilCheck, pop_nilCheck, pNil_ptr, cv_nil, cp_nil, ↓ag_fieldAddr, fa56_2, cv_fieldAddr, cp_fieldAddr, ↓ag_loadL, agQL_some, agL_mk, agL_ld2, agL_ld3, pLoad_one ag4, fa59_2, pLoad_one ag9, ↓ag_index, pop_index, pIndex_str Tryd.underlying9, cv_indexl, cp_indexl, ↓ag_binOp, cv_binl, cp_binl, pI_neq, ↓ag_pick, pop_pick, pPick_bool, pickV_cond_r, cp_nest1, pickV_and, pickV_or, cv_pick, cp_pick, ↓ap_pick, ↓ap_assign, pop_assign, rd_ne', ne_eq, not_false_eq_true, ne_0q1_0q0.symm, rd_any, List.getD_cons_zero, List.getD_cons_succ, Nat.zero_add, lv_bool, lv_int, lv_str, hrx, rdCells, Int.toNat_zero]
        repeat (with_reducible refine And.intro ?_ ?_; · first | trivial | omega | (intro hg; simp only [Bool.and_eq_true, Bool.or_eq_true, Bool.not_eq_true', Bool.and_eq_false_iff, Bool.or_eq_false_iff, Bool.not_eq_false', decide_eq_true_eq, decide_eq_false_iff_not, eqNil] at hg; omega) )
        apply hK; clear hK K
        refine awp_cond (b := _) rfl (fun hb4 => ?_) (fun hb4 => ?_)
        · try simp only [decide_eq_true_eq, decide_eq_false_iff_not, Bool.not_eq_true', Bool.and_eq_true, Bool.or_eq_true] at hb4
          -- region 10  columns.go:112
          refine awp_rseq [4] (by rfl) fun K hK => ?_
          simp (decide := true) only [ev, putD, Slots.put, Slots.get, if_true, if_false, true_and, ↓ap_fieldAddr, pop_fieldAddr, fa59_0, ↓ap_loadL, apL_mk, pLoad_one ag3, fa59_3, rd_ne', ne_eq, not_false_eq_true, ne_0q1_0q0.symm, rd_any, List.getD_cons_zero, List.getD_cons_succ, Nat.zero_add, lv_int]
          repeat (with_reducible refine And.intro ?_ ?_; · first | trivial | omega | (intro hg; simp only [Bool.and_eq_true, Bool.or_eq_true, Bool.not_eq_true', Bool.and_eq_false_iff, Bool.or_eq_false_iff, Bool.not_eq_false', decide_eq_true_eq, decide_eq_false_iff_not, eqNil] at hg; omega) )
          refine aOps_callV (V := faultA ⟨4, r.line, r.col⟩) (by rfl) (by rfl) (c_fault w₀ _ 4 r.line r.col) ?_
          refine aOps_store (by rfl) (by rfl) (by repeat (first | exact AHeap.set_same _ _ _ | assumption | refine (AHeap.set_ne _ _ (by first | assumption | exact Ne.symm (by assumption))).trans ?_)) sz28 (by rfl) (by rfl) (by first | exact Nat.le_refl _ | decide | (simp; done) | (simp; omega)) (Nat.zero_le _) (by rfl) ?_
          simp only [AHeap.set_set, AVal.cells]
          simp (decide := true) only [aOps_nil, ev, putD, Slots.put, Slots.get, Slots.keep, if_true, if_false, setAt, List.set_cons_zero, List.set_cons_succ, Nat.zero_add, Nat.reduceAdd, faultA]
          repeat (with_reducible refine And.intro ?_ ?_; · first | trivial | omega | (intro hg; simp only [Bool.and_eq_true, Bool.or_eq_true, Bool.not_eq_true', Bool.and_eq_false_iff, Bool.or_eq_false_iff, Bool.not_eq_false', decide_eq_true_eq, decide_eq_false_iff_not, eqNil] at hg; omega) )
          apply hK; clear hK K
          refine awp_ret ?_
          try simp only [thenA_ret, inBlockA_ret]
          refine retA_ret (rdH kx B cb mb x) (by repeat (first | exact Sub.refl _ | assumption | refine Sub.trans_set ?_ (by assumption))) (?_) ?_
          · simp (decide := true) only [resPre, resV_cell, Slots.get, if_true, and_true, resV_cell, pLoad_agg ag28 sz28, rd_set, cellsAt, List.getD_cons_zero, List.getD_cons_succ, Nat.zero_add, Nat.reduceAdd, lv_int, allLive, Bool.and_true, cellsAt, List.getD_cons_zero, List.getD_cons_succ, Nat.zero_add, Nat.reduceAdd, lv_int, allLive, Bool.and_true]
          
          simp (decide := true) only [Slots.get, if_true, resOfG_one, resV_cell, pLoad_agg ag28 sz28, rd_set, cellsAt, List.getD_cons_zero, List.getD_cons_succ, Nat.zero_add, Nat.reduceAdd, lv_int, allLive, Bool.and_true, ne_eq, cellsAt, List.getD_cons_zero, List.getD_cons_succ, Nat.zero_add, Nat.reduceAdd, lv_int, allLive, Bool.and_true, faultA]
          rw [take4 hm hne (hb4.imp id (fun e => ⟨e.1, fun q => e.2 (by rw [q]; rfl)⟩))]
          exact ⟨rfl, B, M, cb, mb, rfl, hi, Sub.refl _, fun _ _ h => h⟩
        · try simp only [decide_eq_true_eq, decide_eq_false_iff_not, Bool.not_eq_false', Bool.and_eq_false_iff, Bool.or_eq_false_iff] at hb4
          have hnq : ¬ (r.col < 12 ∨ (x.odd = true ∧ r.text.getD 0 0 ≠ 34)) := by
            rintro (e | ⟨e1, e2⟩)
            · exact hb4.1 e
            · rcases hb4.2 with e | e
              · rw [e1] at e; cases e
              · exact e2 ((u8_eq _ 34).mp e)
          -- region 11  columns.go:113
          refine awp_rseq [0, 3, 4, 84] (by rfl) fun K hK => ?_
          simp (decide := true) only [aOps_nil, ev, putD, Slots.put, Slots.get, Slots.keep, if_true, if_false, true_and, ↓ap_move, pop_move, ↓ap_nilCheck, pop_nilCheck, pNil_ptr, ↓ap_fieldAddr, pop_fieldAddr, fa56_2, ↓ap_loadL, apL_mk, pLoad_one ag4, ↓ap_assign, pop_assign, List.getD_cons_zero, List.getD_cons_succ, Nat.zero_add, lv_bool, hrx, rdCells]
          repeat (with_reducible refine And.intro ?_ ?_; · first | trivial | omega | (intro hg; simp only [Bool.and_eq_true, Bool.or_eq_true, Bool.not_eq_true', Bool.and_eq_false_iff, Bool.or_eq_false_iff, Bool.not_eq_false', decide_eq_true_eq, decide_eq_false_iff_not, eqNil] at hg; omega) )
          apply hK; clear hK K
          refine awp_cond (b := _) rfl (fun hb5 => ?_) (fun hb5 => ?_)
          · try simp only [decide_eq_true_eq, decide_eq_false_iff_not, Bool.not_eq_true', Bool.not_eq_false', Bool.and_eq_true, Bool.and_eq_false_iff, Bool.or_eq_true, Bool.or_eq_false_iff, Bool.true_eq, Bool.false_eq, reduceCtorEq] at hb5
            rw [hheap]
            obtain ⟨B₁, hB₁⟩ : ∃ B₁, B₁ = (B.set k0q0 ⟨[.int .i64 r.line, .bool r.more, .str r.text, .int .i64 r.col], 0⟩).set k0q1 ⟨[.int .i64 0, .int .i64 0, .int .i64 0], 0⟩ := ⟨_, rfl⟩
            rw [← hB₁] at b2 ⊢
            have e0 : B₁ k0q0 = some ⟨[.int .i64 r.line, .bool r.more, .str r.text, .int .i64 r.col], 0⟩ := by rw [hB₁, AHeap.set_ne _ _ ne_0q1_0q0.symm, AHeap.set_same]
            have e1 : B₁ k0q1 = some ⟨[.int .i64 0, .int .i64 0, .int .i64 0], 0⟩ := by rw [hB₁, AHeap.set_same]
            have s0 := fun o => rd_own w₀ (b2.other e0) o
            have sx := fun o => rd_own w₀ b2.at o
            have hcut : (r.text.drop (1 : Int).toNat).take ((r.text.length : Int).toNat - (1 : Int).toNat) = r.text.drop 1 := by
              rw [Int.toNat_natCast, show Int.toNat 1 = 1 from rfl, List.take_of_length_le (by simp)]
            -- region 12  columns.go:114
            refine awp_draw_tail 9 mixed (by kernel_rfl) (by rfl) (by rfl) ?_
            simp (decide := true) only [ev, absV, absS, putD, Slots.put, Slots.get, if_true, if_false, true_and, ↓ap_move, pop_move, ↓ap_fieldAddr, pop_fieldAddr, fa59_0, ↓ap_loadL, apL_mk, pLoad_one ag3, fa59_3, ↓ap_binOp, pop_binOp, isNilC_int, cond_false, pBinX_int, pI_add, fa59_2, pLoad_one ag9, ne_eq, List.getD_cons_zero, List.getD_cons_succ, Nat.zero_add, lv_int, lv_str, faultA, s0]
            try simp (disch := omega) only [wrap_i64]
            try simp (decide := true) only [ev, absV, absS, putD, Slots.put, Slots.get, if_true, if_false, true_and, ↓ap_slice, pop_slice, evO, pSliceS_i0 Tryd.underlying9, pSliceS, bndA_none, bndA_int, hcut]
            repeat (with_reducible refine And.intro ?_ ?_; · first | trivial | omega | (intro hg; simp only [Bool.and_eq_true, Bool.or_eq_true, Bool.not_eq_true', Bool.and_eq_false_iff, Bool.or_eq_false_iff, Bool.not_eq_false', decide_eq_true_eq, decide_eq_false_iff_not, eqNil] at hg; omega) )
            refine aOps_call (by rfl) (by rfl) (c_addR w₀ h kx _ _ cb mb _ b2 hne r.line (r.col + 1) (r.text.drop 1) (by intro c hc; have := hb c hc; omega) (by omega) (by simp; omega)) fun x12q9 h12q9 hx12q9 => ?_
            obtain ⟨-, cb2, mb2, rfl, i2⟩ := hx12q9
            have hz := i2.other e1
            have hsB : Sub B B₁ := fun j c hj => by rw [hB₁]; exact Sub.trans_set (Sub.trans_set (Sub.refl _) a4) (by rwa [AHeap.set_ne _ _ ne_0q1_0q0] at b4) j c hj
            have hsM : ∀ j, B j ≠ none → M j = none → M j = none := fun _ _ h => h
            have hfin := take5 (x := x) (r := r) hm hne hnq hb5
            simp (decide := true) only [aOps_nil, putD, Slots.put, if_false]
            repeat (with_reducible refine And.intro ?_ ?_; · first | trivial | omega | (intro hg; simp only [Bool.and_eq_true, Bool.or_eq_true, Bool.not_eq_true', Bool.and_eq_false_iff, Bool.or_eq_false_iff, Bool.not_eq_false', decide_eq_true_eq, decide_eq_false_iff_not, eqNil] at hg; omega) )
            change Awp _ _ _ _ _ _ _
            -- region 13  columns.go:118
            refine awp_rseq [4] (by rfl) fun K hK => ?_
            simp (decide := true) only [ev, absV, absS, putD, Slots.put, Slots.get, if_false, true_and, ↓ap_build, ↓pop_buildL, bld28_, evP, List.map_nil]
            repeat (with_reducible refine And.intro ?_ ?_; · first | trivial | omega | (intro hg; simp only [Bool.and_eq_true, Bool.or_eq_true, Bool.not_eq_true', Bool.and_eq_false_iff, Bool.or_eq_false_iff, Bool.not_eq_false', decide_eq_true_eq, decide_eq_false_iff_not, eqNil] at hg; omega) )
            refine aOps_store (v := .agg [.int .i64 0, .int .i64 0, .int .i64 0]) (by rfl) (by rfl) hz sz28 (by rfl) (by rfl) (by simp []) (Nat.zero_le _) (by rfl) ?_
            simp only [setAt, AVal.cells, List.set_cons_zero, List.set_cons_succ, Nat.zero_add, Nat.reduceAdd]
            rw [set_same_self hz]
            simp (decide := true) only [aOps_nil, putD, Slots.keep, if_true, if_false]
            repeat (with_reducible refine And.intro ?_ ?_; · first | trivial | omega | (intro hg; simp only [Bool.and_eq_true, Bool.or_eq_true, Bool.not_eq_true', Bool.and_eq_false_iff, Bool.or_eq_false_iff, Bool.not_eq_false', decide_eq_true_eq, decide_eq_false_iff_not, eqNil] at hg; omega) )
            apply hK; clear hK K
            refine awp_ret ?_
            try simp only [thenA_ret, inBlockA_ret]
            refine retA_retE (?_) ?_
            · simp (decide := true) only [resPre, resV_cell, Slots.get, if_true, and_true, resV_cell, pLoad_agg ag28 sz28, cellsAt, List.getD_cons_zero, List.getD_cons_succ, Nat.zero_add, Nat.reduceAdd, lv_int, allLive, Bool.and_true, cellsAt, List.getD_cons_zero, List.getD_cons_succ, Nat.zero_add, Nat.reduceAdd, lv_int, allLive, Bool.and_true, rd_own w₀ hz]
            
            simp (decide := true) only [Slots.get, if_true, resOfG_one, resV_cell, pLoad_agg ag28 sz28, cellsAt, List.getD_cons_zero, List.getD_cons_succ, Nat.zero_add, Nat.reduceAdd, lv_int, allLive, Bool.and_true, cellsAt, List.getD_cons_zero, List.getD_cons_succ, Nat.zero_add, Nat.reduceAdd, lv_int, allLive, Bool.and_true, rd_own w₀ hz]
            refine ⟨_, Sub.refl _, ?_⟩
            rw [hfin]
            exact ⟨rfl, _, _, _, _, rfl, i2, hsB, hsM⟩
          · try simp only [decide_eq_true_eq, decide_eq_false_iff_not, Bool.not_eq_true', Bool.not_eq_false', Bool.and_eq_true, Bool.and_eq_false_iff, Bool.or_eq_true, Bool.or_eq_false_iff, Bool.true_eq, Bool.false_eq, reduceCtorEq] at hb5
            rw [hheap]
            obtain ⟨B₁, hB₁⟩ : ∃ B₁, B₁ = (B.set k0q0 ⟨[.int .i64 r.line, .bool r.more, .str r.text, .int .i64 r.col], 0⟩).set k0q1 ⟨[.int .i64 0, .int .i64 0, .int .i64 0], 0⟩ := ⟨_, rfl⟩
            rw [← hB₁] at b2 ⊢
            have e0 : B₁ k0q0 = some ⟨[.int .i64 r.line, .bool r.more, .str r.text, .int .i64 r.col], 0⟩ := by rw [hB₁, AHeap.set_ne _ _ ne_0q1_0q0.symm, AHeap.set_same]
            have e1 : B₁ k0q1 = some ⟨[.int .i64 0, .int .i64 0, .int .i64 0], 0⟩ := by rw [hB₁, AHeap.set_same]
            have s0 := fun o => rd_own w₀ (b2.other e0) o
            have sx := fun o => rd_own w₀ b2.at o
            -- region 1  columns.go:116
            refine awp_r [4] (by rfl) ?_
            simp (decide := true) only [ev, putD, Slots.put, Slots.get, if_true, if_false, true_and, ↓ap_move, pop_move, ↓ap_fieldAddr, pop_fieldAddr, fa59_0, ↓ap_loadL, apL_mk, pLoad_one ag3, fa59_3, fa59_2, pLoad_one ag9, ne_eq, List.getD_cons_zero, List.getD_cons_succ, Nat.zero_add, lv_int, lv_str, faultA, s0]
            repeat (with_reducible refine And.intro ?_ ?_; · first | trivial | omega | (intro hg; simp only [Bool.and_eq_true, Bool.or_eq_true, Bool.not_eq_true', Bool.and_eq_false_iff, Bool.or_eq_false_iff, Bool.not_eq_false', decide_eq_true_eq, decide_eq_false_iff_not, eqNil] at hg; omega) )
            refine aOps_call (by rfl) (by rfl) (c_addR w₀ h kx _ _ cb mb _ b2 hne r.line r.col r.text (by intro c hc; have := hb c hc; omega) (by omega) ht) fun x1q7 h1q7 hx1q7 => ?_
            obtain ⟨-, cb2, mb2, rfl, i2⟩ := hx1q7
            have hz := i2.other e1
            have hsB : Sub B B₁ := fun j c hj => by rw [hB₁]; exact Sub.trans_set (Sub.trans_set (Sub.refl _) a4) (by rwa [AHeap.set_ne _ _ ne_0q1_0q0] at b4) j c hj
            have hsM : ∀ j, B j ≠ none → M j = none → M j = none := fun _ _ h => h
            have hfin := take6 (x := x) (r := r) hm hne hnq hb5
            simp (decide := true) only [aOps_nil, putD, Slots.put, Slots.keep, if_true, if_false]
            repeat (with_reducible refine And.intro ?_ ?_; · first | trivial | omega | (intro hg; simp only [Bool.and_eq_true, Bool.or_eq_true, Bool.not_eq_true', Bool.and_eq_false_iff, Bool.or_eq_false_iff, Bool.not_eq_false', decide_eq_true_eq, decide_eq_false_iff_not, eqNil] at hg; omega) )
            change Awp _ _ _ _ _ _ _
            -- region 13  columns.go:118
            refine awp_rseq [4] (by rfl) fun K hK => ?_
            simp (decide := true) only [ev, absV, absS, putD, Slots.put, Slots.get, if_false, true_and, ↓ap_build, ↓pop_buildL, bld28_, evP, List.map_nil]
            repeat (with_reducible refine And.intro ?_ ?_; · first | trivial | omega | (intro hg; simp only [Bool.and_eq_true, Bool.or_eq_true, Bool.not_eq_true', Bool.and_eq_false_iff, Bool.or_eq_false_iff, Bool.not_eq_false', decide_eq_true_eq, decide_eq_false_iff_not, eqNil] at hg; omega) )
            refine aOps_store (v := .agg [.int .i64 0, .int .i64 0, .int .i64 0]) (by rfl) (by rfl) hz sz28 (by rfl) (by rfl) (by simp []) (Nat.zero_le _) (by rfl) ?_
            simp only [setAt, AVal.cells, List.set_cons_zero, List.set_cons_succ, Nat.zero_add, Nat.reduceAdd]
            rw [set_same_self hz]
            simp (decide := true) only [aOps_nil, putD, Slots.keep, if_true, if_false]
            repeat (with_reducible refine And.intro ?_ ?_; · first | trivial | omega | (intro hg; simp only [Bool.and_eq_true, Bool.or_eq_true, Bool.not_eq_true', Bool.and_eq_false_iff, Bool.or_eq_false_iff, Bool.not_eq_false', decide_eq_true_eq, decide_eq_false_iff_not, eqNil] at hg; omega) )
            apply hK; clear hK K
            refine awp_ret ?_
            try simp only [thenA_ret, inBlockA_ret]
            refine retA_retE (?_) ?_
            · simp (decide := true) only [resPre, resV_cell, Slots.get, if_true, and_true, resV_cell, pLoad_agg ag28 sz28, cellsAt, List.getD_cons_zero, List.getD_cons_succ, Nat.zero_add, Nat.reduceAdd, lv_int, allLive, Bool.and_true, cellsAt, List.getD_cons_zero, List.getD_cons_succ, Nat.zero_add, Nat.reduceAdd, lv_int, allLive, Bool.and_true, rd_own w₀ hz]
            
            simp (decide := true) only [Slots.get, if_true, resOfG_one, resV_cell, pLoad_agg ag28 sz28, cellsAt, List.getD_cons_zero, List.getD_cons_succ, Nat.zero_add, Nat.reduceAdd, lv_int, allLive, Bool.and_true, cellsAt, List.getD_cons_zero, List.getD_cons_succ, Nat.zero_add, Nat.reduceAdd, lv_int, allLive, Bool.and_true, rd_own w₀ hz]
            refine ⟨_, Sub.refl _, ?_⟩
            rw [hfin]
            exact ⟨rfl, _, _, _, _, rfl, i2, hsB, hsM⟩
end Go.Proofs.YtmadddihphkmoaaDoor

/-
  Contracts: Clip of marks and of cards; bounds of what has been read.
  Conditions: none.
-/
namespace Go.Proofs.YtmadddihphkmoaaDoor
open Go.AM
open Go.Proofs
open Go.Col
set_option maxRecDepth 100000

theorem c_clipM (w₀ : World) (h : AHeap) (v : AVal) (xs : List (List AVal)) (hv : IsL w₀ h 3 v xs) : ACall Tryd.prog w₀ 25 [v] h (fun r h' => r = capL v ∧ h' = h) := by
  have hlen := hv.len Tryd.underlying63
  have h3 := hv.slice3 Tryd.underlying63 sz66 .i64 .i64 none rfl
  refine acall_intro (n := 9) (rs := [.tmp 2]) Tryd.func25 rfl rfl rfl rfl (Nat.le_of_ble_eq_true rfl) ?_
  simp only [initSlots]
  -- region 0  slices.go:435
  refine awp_rseq [0] (by rfl) fun K hK => ?_
  simp (decide := true) only [aOps_nil, ev, absV, absS, putD, Slots.put, Slots.keep, if_true, if_false, true_and, ↓ap_assign, pop_assign]
  repeat (with_reducible refine And.intro ?_ ?_; · first | trivial | omega | (intro hg; simp only [Bool.and_eq_true, Bool.or_eq_true, Bool.not_eq_true', Bool.and_eq_false_iff, Bool.or_eq_false_iff, Bool.not_eq_false', decide_eq_true_eq, decide_eq_false_iff_not, eqNil] at hg; omega) )
  apply hK; clear hK K
  -- region 1  slices.go:436
  refine awp_rseq [2] (by rfl) fun K hK => ?_
  simp (decide := true) only [aOps_nil, ev, putD, Slots.put, Slots.get, Slots.keep, if_true, if_false, true_and, ↓ap_move, pop_move, ↓ap_len, pop_len, ↓ap_slice, pop_slice, evO, ↓ap_assign, pop_assign, hlen, h3]
  repeat (with_reducible refine And.intro ?_ ?_; · first | trivial | omega | (intro hg; simp only [Bool.and_eq_true, Bool.or_eq_true, Bool.not_eq_true', Bool.and_eq_false_iff, Bool.or_eq_false_iff, Bool.not_eq_false', decide_eq_true_eq, decide_eq_false_iff_not, eqNil] at hg; omega) )
  apply hK; clear hK K
  refine awp_ret ?_
  try simp only [thenA_ret, inBlockA_ret]
  refine retA_ret _ (Sub.refl _) (resPre_tmp (resPre_nil)) ?_
  simp (decide := true) only [Slots.get, if_true, and_true, resOf_one]
  all_goals first | rfl | exact ⟨rfl, rfl⟩ | (simp (decide := true) only [if_true, if_false, *]; done) | (trace_state; fail)
theorem c_clipC (w₀ : World) (h : AHeap) (v : AVal) (xs : List (List AVal)) (hv : IsL w₀ h 3 v xs) : ACall Tryd.prog w₀ 26 [v] h (fun r h' => r = capL v ∧ h' = h) := by
  have hlen := hv.len Tryd.underlying44
  have h3 := hv.slice3 Tryd.underlying44 sz68 .i64 .i64 none rfl
  refine acall_intro (n := 9) (rs := [.tmp 2]) Tryd.func26 rfl rfl rfl rfl (Nat.le_of_ble_eq_true rfl) ?_
  simp only [initSlots]
  -- region 0  slices.go:435
  refine awp_rseq [0] (by rfl) fun K hK => ?_
  simp (decide := true) only [aOps_nil, ev, absV, absS, putD, Slots.put, Slots.keep, if_true, if_false, true_and, ↓ap_assign, pop_assign]
  repeat (with_reducible refine And.intro ?_ ?_; · first | trivial | omega | (intro hg; simp only [Bool.and_eq_true, Bool.or_eq_true, Bool.not_eq_true', Bool.and_eq_false_iff, Bool.or_eq_false_iff, Bool.not_eq_false', decide_eq_true_eq, decide_eq_false_iff_not, eqNil] at hg; omega) )
  apply hK; clear hK K
  -- region 1  slices.go:436
  refine awp_rseq [2] (by rfl) fun K hK => ?_
  simp (decide := true) only [aOps_nil, ev, putD, Slots.put, Slots.get, Slots.keep, if_true, if_false, true_and, ↓ap_move, pop_move, ↓ap_len, pop_len, ↓ap_slice, pop_slice, evO, ↓ap_assign, pop_assign, hlen, h3]
  repeat (with_reducible refine And.intro ?_ ?_; · first | trivial | omega | (intro hg; simp only [Bool.and_eq_true, Bool.or_eq_true, Bool.not_eq_true', Bool.and_eq_false_iff, Bool.or_eq_false_iff, Bool.not_eq_false', decide_eq_true_eq, decide_eq_false_iff_not, eqNil] at hg; omega) )
  apply hK; clear hK K
  refine awp_ret ?_
  try simp only [thenA_ret, inBlockA_ret]
  refine retA_ret _ (Sub.refl _) (resPre_tmp (resPre_nil)) ?_
  simp (decide := true) only [Slots.get, if_true, and_true, resOf_one]
  all_goals first | rfl | exact ⟨rfl, rfl⟩ | (simp (decide := true) only [if_true, if_false, *]; done) | (trace_state; fail)
/-- What has been read is not greater than its lines. -/
structure RdSm (N : Nat) (x : Rd) : Prop where
  many : x.cards.length ≤ N
  small : ∀ c ∈ x.cards, c.text.length ≤ 80 * N ∧ c.marks.length ≤ N
theorem RdSm.next {N : Nat} {x : Rd} (h : RdSm N x) : RdSm (N + 1) x := ⟨by have := h.many; omega, fun c hc => by have := h.small c hc; omega⟩
theorem addC_small {c : CardC} {N : Nat} (h : c.text.length ≤ 80 * N ∧ c.marks.length ≤ N) (line col : Int) (t : Str) (ht : t.length ≤ 80) : (addC c line col t).text.length ≤ 80 * (N + 1) ∧ (addC c line col t).marks.length ≤ N + 1 := by
  have h1 := trimR_le t
  unfold addC
  simp only [List.length_append]
  constructor
  · split <;> omega
  · split <;> (try split) <;> (try simp only [List.length_append, List.length_cons, List.length_nil]) <;> omega
theorem addE_small {N : Nat} {x : Rd} (h : RdSm N x) (line col : Int) (t : Str) (ht : t.length ≤ 80) : RdSm (N + 1) (addE x line col t) := by
  rcases List.eq_nil_or_concat x.cards with e | ⟨l, c, e⟩
  · have : addE x line col t = x := by unfold addE; rw [e]; rfl
    rw [this]
    exact h.next
  · rw [List.concat_eq_append] at e
    rw [addE_last e]
    have hm := h.many
    rw [e] at hm
    simp only [List.length_append, List.length_cons, List.length_nil] at hm
    refine ⟨by simp; omega, fun d hd => ?_⟩
    rw [List.mem_append] at hd
    rcases hd with hd | hd
    · have := h.small d (by rw [e]; simp [hd])
      omega
    · rw [List.mem_singleton.1 hd]
      exact addC_small (h.small c (by rw [e]; simp)) line col t ht
theorem takeE_small {N : Nat} {x : Rd} (h : RdSm N x) {r : RowC} (ht : r.text.length ≤ 80) : RdSm (N + 1) (takeE x r).1 := by
  unfold takeE
  split
  · exact h.next
  split
  · have hp : RdSm N x := h
    have h' : RdSm (N + 1) ⟨x.cards ++ [⟨decide (r.col < 12), [], []⟩], x.line, x.col, x.odd⟩ := by
      refine ⟨by have := h.many; simp; omega, fun c hc => ?_⟩
      rw [List.mem_append] at hc
      rcases hc with hc | hc
      · exact h.next.small c hc
      · rw [List.mem_singleton.1 hc]
        simp
    refine ⟨?_, ?_⟩
    · have := h.many
      rw [addE_last (x := ⟨x.cards ++ [⟨decide (r.col < 12), [], []⟩], x.line, x.col, x.odd⟩) rfl]
      simp
      omega
    · intro c hc
      rw [addE_last (x := ⟨x.cards ++ [⟨decide (r.col < 12), [], []⟩], x.line, x.col, x.odd⟩) rfl] at hc
      simp only [List.mem_append, List.mem_singleton] at hc
      rcases hc with hc | rfl
      · exact h.next.small c hc
      · exact addC_small ⟨by simp, by simp⟩ _ _ _ ht
  split
  · exact h.next
  split
  · exact h.next
  split
  · exact addE_small h _ _ _ (by simp; omega)
  · exact addE_small h _ _ _ ht
theorem lineE_small {s : Str} {line : Int} {dbg : Bool} : (lineE s line dbg).1.text.length ≤ 65 ∧ ((lineE s line dbg).2.1 = true → (lineE s line dbg).1.text ≠ [] ∧ 0 ≤ (lineE s line dbg).1.col ∧ (lineE s line dbg).1.col ≤ 73) := by
  by_cases h80 : 80 < s.length
  · have : lineE s line dbg = (noRow, false, ⟨5, line, 81⟩) := by unfold lineE; rw [if_pos h80]
    rw [this]
    simp [noRow]
  · cases hb : badAt s with
    | some i =>
      have : lineE s line dbg = (noRow, false, ⟨4, line, (i : Int) + 1⟩) := by unfold lineE; rw [if_neg h80, hb]
      rw [this]
      simp [noRow]
    | none =>
      rw [lineE_none h80 hb]
      have h1 : (rowE s line).text.length ≤ 65 := Nat.le_trans (trimL_le _) (by simp; omega)
      have h2 : (rowE s line).col = 73 - (rowE s line).text.length := rfl
      split
      · exact ⟨h1, by simp⟩
      split
      · refine ⟨h1, fun h => ?_⟩
        simp only [Bool.and_eq_true, Bool.not_eq_true', decide_eq_false_iff_not] at h
        exact ⟨h.2, by simp only; omega, by simp only; omega⟩
      split
      · refine ⟨h1, fun h => ?_⟩
        simp only [Bool.not_eq_true', decide_eq_false_iff_not] at h
        exact ⟨h, by simp only; omega, by simp only; omega⟩
      · exact ⟨h1, by simp⟩
theorem splitNL_len : ∀ s : Str, (splitNL s).length ≤ s.length + 1
  | [] => by simp [splitNL]
  | b :: s => by
    have := splitNL_len s
    unfold splitNL
    split
    · simp; omega
    · split <;> simp_all <;> omega
theorem trimNL_len (s : Str) : (trimNL s).length ≤ s.length := by
  unfold trimNL
  split <;> simp
/-- A row of cards. -/
def IsCards (w₀ : World) (h : AHeap) (v : AVal) (cs : List CardC) : Prop := ∃ ps : List (CardC × AVal), ps.map (·.1) = cs ∧ IsL w₀ h 3 v (ps.map cell3) ∧ ∀ p ∈ ps, IsL w₀ h 3 p.2 (p.1.marks.map markC)
theorem IsCards.mono {w₀ : World} {h h' : AHeap} {v : AVal} {cs : List CardC} (hc : IsCards w₀ h v cs) (hs : Sub h h') : IsCards w₀ h' v cs := by
  obtain ⟨ps, h1, h2, h3⟩ := hc
  exact ⟨ps, h1, h2.mono hs, fun p hp => (h3 p hp).mono hs⟩
end Go.Proofs.YtmadddihphkmoaaDoor

