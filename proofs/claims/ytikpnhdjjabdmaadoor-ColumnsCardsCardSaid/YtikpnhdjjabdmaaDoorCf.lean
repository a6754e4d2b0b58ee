/-
  Texts of this proof, joined: CoY, LwR, LwS, LwT.
  Conditions: none.
-/
import Derived.Test.YtikpnhdjjabdmaaDoorCe
import Derived.Test.YtikpnhdjjabdmaaDoorProg
import Derived.Test.YtikpnhdjjabdmaaDoorCb
import Derived.WalkKit
import Derived.ProofKit
import Derived.OpenShut
import Derived.ShutString
import Derived.ChangeOld
import Derived.Below
import Derived.Deep.Strs
import Derived.Handed
import Derived.HandedShaped
import Derived.Shelf.Vars
import Derived.Test.YtikpnhdjjabdmaaDoorRows
import Derived.Lib.LaidTab
import Derived.MakeChecks
import Derived.Test.YtikpnhdjjabdmaaDoorCc
set_option linter.unusedSimpArgs false
set_option linter.unnecessarySimpa false
set_option linter.unusedVariables false
/-
  The statement ColumnsCards, walked.
  Conditions: none.
-/
namespace Go.Proofs.YtikpnhdjjabdmaaDoor
open Go.AM
open Go.Proofs
open Go.Col
set_option maxRecDepth 100000

theorem split_ten : ∀ n : Nat, splitNL (List.replicate n 10) = List.replicate (n + 1) []
  | 0 => rfl
  | n + 1 => by
    rw [List.replicate_succ, splitNL, if_pos rfl, split_ten n, ← List.replicate_succ]
theorem readL_nils : ∀ (m : Nat) (n : Int) (x : Rd), readL false (List.replicate m []) n x = (x, okF)
  | 0, _, _ => rfl
  | m + 1, n, x => by
    rw [List.replicate_succ]
    cases hp : lineE [] n false with
    | mk r q =>
      obtain ⟨cn, f⟩ := q
      obtain ⟨h1, h2⟩ := nil_skip n
      rw [hp] at h1 h2
      simp only at h1 h2
      subst h1 h2
      rw [readL_skip hp rfl]
      exact readL_nils m _ x
theorem readE_tens {s : Str} {n : Nat} (hs : s = List.replicate n 10) (hn : n ≤ 1048576) : readE s false = ([], okF) := by
  have hl : s.length ≤ 1048576 := by rw [hs, List.length_replicate]; exact hn
  refine readE_ok (x := .start) hl ?_ rfl
  rw [readL_trim, hs, split_ten]
  exact readL_nils _ _ _
theorem cardsEnd (w₀ : World) (hm : MaxL w₀) (ht10 : Tab10 w₀) (h H : AHeap) (hs_H : Sub h H) (k0 k4 : Nat) (c : CardC) (mv : AVal) (i : Int) (A : Int × Int) (ok : Bool) (hmv : IsL w₀ H 3 mv (c.marks.map markC)) (hl : c.text.length ≤ 100) (hml : c.marks.length ≤ 20) (hi0 : -9223372036854775808 ≤ i)
    (eb_0 : H k0 = some ⟨[.bool c.left, .str c.text, mv], 0⟩) (eb_4 : H k4 = some ⟨[.int .i64 A.1, .int .i64 A.2], 0⟩) (hok : (ok = true ∧ atE c i = (A.1, A.2, 0)) ∨ (ok = false ∧ atE c i = (0, 0, 1))) :
    Awp Tryd.prog w₀ 172 (dropSeq 5 (bodyOf Tryd.f7)) (retA Tryd.prog w₀ [.tmp 4] ((fun x h' => x = .bool true ∧ h' = h))) [(1, .int .i64 i), (2, .ptr (.own k0) 0), (5, .bool ok), (7, .ptr (.own k4) 0)] (H) := by
  have hlv := hmv.live
  have hln := hmv.len Tryd.underlying37
  rw [List.length_map] at hln
  obtain ⟨p, hp⟩ : ∃ p, p = atE c i := ⟨_, rfl⟩
  rw [← hp] at hok
  obtain ⟨s1, hs1⟩ : ∃ s, s = List.replicate 1048577 (10 : UInt8) := ⟨_, rfl⟩
  obtain ⟨s2, hs2⟩ : ∃ s, s = List.replicate 1048576 (10 : UInt8) := ⟨_, rfl⟩
  have hl1 : s1.length = 1048577 := by rw [hs1, List.length_replicate]
  have hl2 : s2.length = 1048576 := by rw [hs2, List.length_replicate]
  have h1r : readE s1 false = ([], ⟨3, 0, 0⟩) := readE_long (by rw [hl1]; decide)
  have h2r : readE s2 false = ([], okF) := readE_tens hs2 (Nat.le_refl _)
  change Awp _ _ _ (Code.seq _ _) _ _ _
  -- region 14  law.go:252
  refine awp_rseq [2, 5, 7, 10, 11] (by rfl) fun K hK => ?_
  simp (decide := true) only [ev, putD, Slots.put, Slots.get, if_true, if_false, true_and, ↓ap_loadL, apL_mk, pLoad_agg ag39 sz39, ↓ap_move, pop_move, rd_own w₀ eb_0, cellsAt, List.getD_cons_zero, List.getD_cons_succ, Nat.zero_add, Nat.reduceAdd, lv_bool, lv_str, allLive, Bool.and_true, hlv]
  repeat (with_reducible refine And.intro ?_ ?_; · first | trivial | omega | (intro hg; simp only [Bool.and_eq_true, Bool.or_eq_true, Bool.not_eq_true', Bool.and_eq_false_iff, Bool.or_eq_false_iff, Bool.not_eq_false', decide_eq_true_eq, decide_eq_false_iff_not, eqNil] at hg; omega) | (simp only [List.length_append, List.length_map, List.length_range, List.length_replicate, List.length_take, List.length_drop, List.length_cons, List.length_nil, List.length_set, List.length_reverse]; omega))
  refine aOps_callV (V := .tuple [.agg [.int .i64 p.1, .int .i64 p.2.1], .int .i64 p.2.2]) (by rfl) (by rfl) ((by rw [hp]; exact c_At w₀ H c mv i hmv (by omega) (by omega) hi0)) ?_
  simp (decide := true) only [ev, putD, Slots.put, Slots.get, if_true, if_false, true_and, ↓ap_move, pop_move, ↓ap_extract, pop_extract, pExt_tuple, List.length_cons, List.length_nil, List.getD_cons_zero, List.getD_cons_succ, List.getD_cons_zero, List.getD_cons_succ, Nat.zero_add, Nat.reduceAdd]
  repeat (with_reducible refine And.intro ?_ ?_; · first | trivial | omega | (intro hg; simp only [Bool.and_eq_true, Bool.or_eq_true, Bool.not_eq_true', Bool.and_eq_false_iff, Bool.or_eq_false_iff, Bool.not_eq_false', decide_eq_true_eq, decide_eq_false_iff_not, eqNil] at hg; omega) | (simp only [List.length_append, List.length_map, List.length_range, List.length_replicate, List.length_take, List.length_drop, List.length_cons, List.length_nil, List.length_set, List.length_reverse]; omega))
  refine aOps_alloc ze32 (cs := [.int .i64 0, .int .i64 0]) (by rfl) fun k14q6 hk14q6 => ?_
  have hn_14q6 : H k14q6 = none := by first | assumption | (simp only [AHeap.set_none] at hk14q6; simp only [hk14q6])
  have hf_14q6 : h k14q6 = none := Sub.none hs_H hn_14q6
  have ne_14q6_0 : k14q6 ≠ k0 := AHeap.ne_some hn_14q6 eb_0
  have ne_14q6_4 : k14q6 ≠ k4 := AHeap.ne_some hn_14q6 eb_4
  refine aOps_store (by rfl) (by rfl) (by repeat (first | exact AHeap.set_same _ _ _ | assumption | refine (AHeap.set_ne _ _ (by first | assumption | exact Ne.symm (by assumption))).trans ?_)) sz32 (by rfl) (by rfl) (by first | exact Nat.le_refl _ | decide | (simp; done) | (simp; omega)) (Nat.zero_le _) (by rfl) ?_
  simp only [AHeap.set_set, AVal.cells]
  simp (decide := true) only [aOps_nil, ev, putD, Slots.put, Slots.get, Slots.keep, if_true, if_false, true_and, ↓ap_assign, pop_assign, setAt, List.set_cons_zero, List.set_cons_succ, Nat.zero_add]
  repeat (with_reducible refine And.intro ?_ ?_; · first | trivial | omega | (intro hg; simp only [Bool.and_eq_true, Bool.or_eq_true, Bool.not_eq_true', Bool.and_eq_false_iff, Bool.or_eq_false_iff, Bool.not_eq_false', decide_eq_true_eq, decide_eq_false_iff_not, eqNil] at hg; omega) | (simp only [List.length_append, List.length_map, List.length_range, List.length_replicate, List.length_take, List.length_drop, List.length_cons, List.length_nil, List.length_set, List.length_reverse]; omega))
  apply hK; clear hK K
  refine awp_seq ?_
  -- region 15  law.go:253
  refine awp_rseq [2, 140] (by rfl) fun K hK => ?_
  simp (decide := true) only [aOps_nil, ev, absV, absS, putD, Slots.put, Slots.get, Slots.keep, if_true, if_false, true_and, ↓ap_move, pop_move, ↓ag_move, agP, agQ_some, nthDst, gKnown_bool, gKnown_cond, guardB_cond, guardB_bool_true, guardB_bool_false, cv_cv, implies_true, Bool.not_not, Bool.and_true, ↓ag_binOp, pop_binOp, isNilC_int, cond_false, cv_binl, cv_binr, cp_binl, cp_binr, pBinX_int, pI_neq, ↓ag_loadL, agQL_some, agL_mk, pLoad_agg ag32 sz32, isNilC_tmp, pBinX_agg, ne32, ↓ag_pick, pop_pick, pPick_bool, pickV_cond_l, pickV_cond_r, cp_nest1, cp_nest3, pickV_and, pickV_or, cv_pick, cp_pick, ↓ap_pick, ↓ag_unOp, pop_unOp, pU_not, cv_un, cp_un, ↓ag_build, ↓pop_buildL, bld32_, evP, List.map_nil, rd_ne', ne_eq, not_false_eq_true, ne_14q6_4.symm, rd_own w₀ eb_4, rd_any, cellsAt, List.getD_cons_zero, List.getD_cons_succ, Nat.zero_add, lv_int, allLive, Bool.and_true]
  try simp (disch := omega) only [wrap_i64, wrap_u8]
  repeat (with_reducible refine And.intro ?_ ?_; · first | trivial | omega | (intro hg; simp only [Bool.and_eq_true, Bool.or_eq_true, Bool.not_eq_true', Bool.and_eq_false_iff, Bool.or_eq_false_iff, Bool.not_eq_false', decide_eq_true_eq, decide_eq_false_iff_not, eqNil] at hg; omega) | (simp only [List.length_append, List.length_map, List.length_range, List.length_replicate, List.length_take, List.length_drop, List.length_cons, List.length_nil, List.length_set, List.length_reverse]; omega))
  apply hK; clear hK K
  refine awp_cond (b := _) rfl (fun hb1 => ?_) (fun hb1 => ?_)
  · exfalso
    rcases hok with ⟨e1, e2⟩ | ⟨e1, e2⟩
    · rw [e1, e2] at hb1
      simp at hb1
    · rw [e1, e2] at hb1
      simp at hb1
  · try simp only [decide_eq_true_eq, Bool.not_eq_false', Bool.and_eq_true, Bool.and_eq_false_iff, Bool.or_eq_false_iff] at hb1
    refine awp_skip ?_
    change Awp _ _ _ _ _ _ _
    refine awp_seq ?_
    -- region 17  law.go:256
    refine awp_rseq [144] (by rfl) fun K hK => ?_
    simp (decide := true) only [aOps_nil, ev, absV, absS, putD, Slots.put, Slots.get, Slots.keep, if_true, if_false, true_and, ↓ap_fieldAddr, pop_fieldAddr, fa39_2, ↓ap_loadL, apL_mk, pLoad_one ag37, ↓ap_len, pop_len, ↓ap_binOp, pop_binOp, isNilC_int, cond_false, pBinX_int, pI_gtr, rd_ne', ne_eq, not_false_eq_true, ne_14q6_0.symm, rd_own w₀ eb_0, List.getD_cons_zero, List.getD_cons_succ, Nat.zero_add, hlv, hln]
    repeat (with_reducible refine And.intro ?_ ?_; · first | trivial | omega | (intro hg; simp only [Bool.and_eq_true, Bool.or_eq_true, Bool.not_eq_true', Bool.and_eq_false_iff, Bool.or_eq_false_iff, Bool.not_eq_false', decide_eq_true_eq, decide_eq_false_iff_not, eqNil] at hg; omega) | (simp only [List.length_append, List.length_map, List.length_range, List.length_replicate, List.length_take, List.length_drop, List.length_cons, List.length_nil, List.length_set, List.length_reverse]; omega))
    apply hK; clear hK K
    refine awp_cond (b := _) rfl (fun hb2 => ?_) (fun hb2 => ?_)
    · try simp only [decide_eq_true_eq] at hb2
      -- region 18  law.go:257
      refine awp_rseq [4] (by rfl) fun K hK => ?_
      refine aOps_callV (V := .bool true) (by rfl) (by rfl) (c_lives02 w₀ hm ht10 _) ?_
      simp (decide := true) only [aOps_nil, ev, putD, Slots.put, Slots.get, Slots.keep, if_true, if_false, true_and, ↓ap_assign, pop_assign]
      repeat (with_reducible refine And.intro ?_ ?_; · first | trivial | omega | (intro hg; simp only [Bool.and_eq_true, Bool.or_eq_true, Bool.not_eq_true', Bool.and_eq_false_iff, Bool.or_eq_false_iff, Bool.not_eq_false', decide_eq_true_eq, decide_eq_false_iff_not, eqNil] at hg; omega) | (simp only [List.length_append, List.length_map, List.length_range, List.length_replicate, List.length_take, List.length_drop, List.length_cons, List.length_nil, List.length_set, List.length_reverse]; omega))
      apply hK; clear hK K
      refine awp_ret ?_
      try simp only [thenA_ret]
      refine retA_ret h (by repeat (first | exact Sub.refl _ | assumption | refine Sub.trans_set ?_ (by assumption))) (resPre_tmp (resPre_nil)) ?_
      simp (decide := true) only [Slots.get, if_true, and_true, resOf_one]
      all_goals first | rfl | exact ⟨rfl, rfl⟩ | (simp (decide := true) only [if_true, if_false, *]; done) | (trace_state; fail)
    · try simp only [decide_eq_false_iff_not] at hb2
      refine awp_skip ?_
      change Awp _ _ _ _ _ _ _
      -- region 19  law.go:259
      refine awp_rseq [13] (by rfl) fun K hK => ?_
      refine aOps_callV (V := .str s1) (by rfl) (by rfl) ((by rw [hs1]; exact c_repeat w₀ _ 10 1048577 (by decide))) ?_
      refine aOps_call (by rfl) (by rfl) (c_Read w₀ hm _ s1 false (by rw [hl1]; decide)) fun x19q1 h19q1 hx19q1 => ?_
      obtain ⟨cv, rfl, hc, hs19⟩ := hx19q1
      rw [h1r] at hc ⊢
      have hcl := hc.live
      have hs_h19q1 : Sub h h19q1 := Sub.trans (by repeat (first | exact Sub.refl _ | assumption | refine Sub.trans_set ?_ (by assumption))) hs19
      have hr_h19q1 : Sub H h19q1 := Sub.trans (by repeat (first | exact Sub.refl _ | assumption | refine Sub.trans_set ?_ (by assumption))) hs19
      have eb_14q6 := hs19 k14q6 _ (by repeat (first | exact AHeap.set_same _ _ _ | assumption | refine (AHeap.set_ne _ _ (by first | assumption | exact Ne.symm (by assumption))).trans ?_))
      have eb_0 := hs19 k0 _ (by repeat (first | exact AHeap.set_same _ _ _ | assumption | refine (AHeap.set_ne _ _ (by first | assumption | exact Ne.symm (by assumption))).trans ?_))
      have eb_4 := hs19 k4 _ (by repeat (first | exact AHeap.set_same _ _ _ | assumption | refine (AHeap.set_ne _ _ (by first | assumption | exact Ne.symm (by assumption))).trans ?_))
      simp (decide := true) only [ev, putD, Slots.put, Slots.get, if_true, if_false, true_and, ↓ap_move, pop_move, ↓ap_extract, pop_extract, pExt_tuple, List.length_cons, List.length_nil, List.getD_cons_zero, List.getD_cons_succ, List.getD_cons_zero, List.getD_cons_succ, Nat.zero_add, Nat.reduceAdd, faultA]
      repeat (with_reducible refine And.intro ?_ ?_; · first | trivial | omega | (intro hg; simp only [Bool.and_eq_true, Bool.or_eq_true, Bool.not_eq_true', Bool.and_eq_false_iff, Bool.or_eq_false_iff, Bool.not_eq_false', decide_eq_true_eq, decide_eq_false_iff_not, eqNil] at hg; omega) | (simp only [List.length_append, List.length_map, List.length_range, List.length_replicate, List.length_take, List.length_drop, List.length_cons, List.length_nil, List.length_set, List.length_reverse]; omega))
      refine aOps_alloc ze34 (cs := [.int .i64 0, .int .i64 0, .int .i64 0]) (by rfl) fun k19q5 hk19q5 => ?_
      have hn_19q5 : h19q1 k19q5 = none := by first | assumption | (simp only [AHeap.set_none] at hk19q5; simp only [hk19q5])
      have hf_19q5 : h k19q5 = none := Sub.none hs_h19q1 hn_19q5
      have ne_19q5_0 : k19q5 ≠ k0 := AHeap.ne_some hn_19q5 eb_0
      have ne_19q5_4 : k19q5 ≠ k4 := AHeap.ne_some hn_19q5 eb_4
      have ne_19q5_14q6 : k19q5 ≠ k14q6 := AHeap.ne_some hn_19q5 eb_14q6
      simp (decide := true) only [ev, putD, Slots.put, Slots.get, if_true, if_false, true_and, ↓ap_assign, pop_assign]
      repeat (with_reducible refine And.intro ?_ ?_; · first | trivial | omega | (intro hg; simp only [Bool.and_eq_true, Bool.or_eq_true, Bool.not_eq_true', Bool.and_eq_false_iff, Bool.or_eq_false_iff, Bool.not_eq_false', decide_eq_true_eq, decide_eq_false_iff_not, eqNil] at hg; omega) | (simp only [List.length_append, List.length_map, List.length_range, List.length_replicate, List.length_take, List.length_drop, List.length_cons, List.length_nil, List.length_set, List.length_reverse]; omega))
      refine aOps_store (by rfl) (by rfl) (by repeat (first | exact AHeap.set_same _ _ _ | assumption | refine (AHeap.set_ne _ _ (by first | assumption | exact Ne.symm (by assumption))).trans ?_)) sz34 (by rfl) (by rfl) (by first | exact Nat.le_refl _ | decide | (simp; done) | (simp; omega)) (Nat.zero_le _) (by rfl) ?_
      simp only [AHeap.set_set, AVal.cells]
      simp (decide := true) only [aOps_nil, ev, putD, Slots.get, Slots.keep, if_true, if_false, setAt, List.set_cons_zero, List.set_cons_succ, Nat.zero_add, Nat.reduceAdd]
      repeat (with_reducible refine And.intro ?_ ?_; · first | trivial | omega | (intro hg; simp only [Bool.and_eq_true, Bool.or_eq_true, Bool.not_eq_true', Bool.and_eq_false_iff, Bool.or_eq_false_iff, Bool.not_eq_false', decide_eq_true_eq, decide_eq_false_iff_not, eqNil] at hg; omega) | (simp only [List.length_append, List.length_map, List.length_range, List.length_replicate, List.length_take, List.length_drop, List.length_cons, List.length_nil, List.length_set, List.length_reverse]; omega))
      apply hK; clear hK K
      -- region 20  law.go:260
      refine awp_rseq [13, 14, 15] (by rfl) fun K hK => ?_
      refine aOps_callV (V := .str s2) (by rfl) (by rfl) ((by rw [hs2]; exact c_repeat w₀ _ 10 1048576 (by decide))) ?_
      refine aOps_call (by rfl) (by rfl) (c_Read w₀ hm _ s2 false (by rw [hl2]; decide)) fun x20q1 h20q1 hx20q1 => ?_
      obtain ⟨cv2, rfl, hc2, hs20⟩ := hx20q1
      rw [h2r] at hc2 ⊢
      have hcl2 := hc2.live
      have hcn2 := hc2.len
      have hs_h20q1 : Sub h h20q1 := Sub.trans (by repeat (first | exact Sub.refl _ | assumption | refine Sub.trans_set ?_ (by assumption))) hs20
      have hr_h20q1 : Sub h19q1 h20q1 := Sub.trans (by repeat (first | exact Sub.refl _ | assumption | refine Sub.trans_set ?_ (by assumption))) hs20
      have eb_19q5 := hs20 k19q5 _ (by repeat (first | exact AHeap.set_same _ _ _ | assumption | refine (AHeap.set_ne _ _ (by first | assumption | exact Ne.symm (by assumption))).trans ?_))
      have eb_0 := hs20 k0 _ (by repeat (first | exact AHeap.set_same _ _ _ | assumption | refine (AHeap.set_ne _ _ (by first | assumption | exact Ne.symm (by assumption))).trans ?_))
      have eb_4 := hs20 k4 _ (by repeat (first | exact AHeap.set_same _ _ _ | assumption | refine (AHeap.set_ne _ _ (by first | assumption | exact Ne.symm (by assumption))).trans ?_))
      have eb_14q6 := hs20 k14q6 _ (by repeat (first | exact AHeap.set_same _ _ _ | assumption | refine (AHeap.set_ne _ _ (by first | assumption | exact Ne.symm (by assumption))).trans ?_))
      simp (decide := true) only [ev, putD, Slots.put, Slots.get, if_true, if_false, true_and, ↓ap_move, pop_move, ↓ap_extract, pop_extract, pExt_tuple, List.length_cons, List.length_nil, List.getD_cons_zero, List.getD_cons_succ, List.getD_cons_zero, List.getD_cons_succ, Nat.zero_add, Nat.reduceAdd, faultA]
      repeat (with_reducible refine And.intro ?_ ?_; · first | trivial | omega | (intro hg; simp only [Bool.and_eq_true, Bool.or_eq_true, Bool.not_eq_true', Bool.and_eq_false_iff, Bool.or_eq_false_iff, Bool.not_eq_false', decide_eq_true_eq, decide_eq_false_iff_not, eqNil] at hg; omega) | (simp only [List.length_append, List.length_map, List.length_range, List.length_replicate, List.length_take, List.length_drop, List.length_cons, List.length_nil, List.length_set, List.length_reverse]; omega))
      refine aOps_alloc ze34 (cs := [.int .i64 0, .int .i64 0, .int .i64 0]) (by rfl) fun k20q5 hk20q5 => ?_
      have hn_20q5 : h20q1 k20q5 = none := by first | assumption | (simp only [AHeap.set_none] at hk20q5; simp only [hk20q5])
      have hf_20q5 : h k20q5 = none := Sub.none hs_h20q1 hn_20q5
      have ne_20q5_0 : k20q5 ≠ k0 := AHeap.ne_some hn_20q5 eb_0
      have ne_20q5_4 : k20q5 ≠ k4 := AHeap.ne_some hn_20q5 eb_4
      have ne_20q5_14q6 : k20q5 ≠ k14q6 := AHeap.ne_some hn_20q5 eb_14q6
      have ne_20q5_19q5 : k20q5 ≠ k19q5 := AHeap.ne_some hn_20q5 eb_19q5
      simp (decide := true) only [ev, putD, Slots.put, Slots.get, if_true, if_false, true_and, ↓ap_assign, pop_assign]
      repeat (with_reducible refine And.intro ?_ ?_; · first | trivial | omega | (intro hg; simp only [Bool.and_eq_true, Bool.or_eq_true, Bool.not_eq_true', Bool.and_eq_false_iff, Bool.or_eq_false_iff, Bool.not_eq_false', decide_eq_true_eq, decide_eq_false_iff_not, eqNil] at hg; omega) | (simp only [List.length_append, List.length_map, List.length_range, List.length_replicate, List.length_take, List.length_drop, List.length_cons, List.length_nil, List.length_set, List.length_reverse]; omega))
      refine aOps_store (by rfl) (by rfl) (by repeat (first | exact AHeap.set_same _ _ _ | assumption | refine (AHeap.set_ne _ _ (by first | assumption | exact Ne.symm (by assumption))).trans ?_)) sz34 (by rfl) (by rfl) (by first | exact Nat.le_refl _ | decide | (simp; done) | (simp; omega)) (Nat.zero_le _) (by rfl) ?_
      simp only [AHeap.set_set, AVal.cells]
      simp (decide := true) only [aOps_nil, ev, putD, Slots.get, Slots.keep, if_true, if_false, setAt, List.set_cons_zero, List.set_cons_succ, Nat.zero_add, Nat.reduceAdd]
      repeat (with_reducible refine And.intro ?_ ?_; · first | trivial | omega | (intro hg; simp only [Bool.and_eq_true, Bool.or_eq_true, Bool.not_eq_true', Bool.and_eq_false_iff, Bool.or_eq_false_iff, Bool.not_eq_false', decide_eq_true_eq, decide_eq_false_iff_not, eqNil] at hg; omega) | (simp only [List.length_append, List.length_map, List.length_range, List.length_replicate, List.length_take, List.length_drop, List.length_cons, List.length_nil, List.length_set, List.length_reverse]; omega))
      apply hK; clear hK K
      -- region 21  law.go:261
      refine awp_rseq [4] (by rfl) fun K hK => ?_
      simp (decide := true) only [ev, absV, absS, putD, Slots.put, Slots.get, if_true, if_false, true_and, ↓ap_loadL, apL_mk, pLoad_agg ag34 sz34, ↓ap_build, ↓pop_buildL, bld34_0, evP, List.map_cons, List.map_nil, ↓ap_binOp, pop_binOp, isNilC_tmp, cond_false, pBinX_agg, eq34, ↓ap_move, pop_move, ↓ag_loadL, agQL_some, agL_mk, agP, agQ_some, nthDst, gKnown_bool, guardB_bool_true, implies_true, decide_true, condV_true, Bool.and_true, ↓ag_build, bld34_, ↓ag_binOp, ↓ap_pick, pop_pick, pPick_bool, pickV_and, ↓ag_move, ↓ag_len, pop_len, isNilC_int, pBinX_int, pI_eql, rd_ne', ne_eq, not_false_eq_true, ne_20q5_19q5.symm, rd_own w₀ eb_19q5, rd_any, cellsAt, List.getD_cons_zero, List.getD_cons_succ, Nat.zero_add, Nat.reduceAdd, lv_int, allLive, Bool.and_true, hcn2]
      repeat (with_reducible refine And.intro ?_ ?_; · first | trivial | omega | (intro hg; simp only [Bool.and_eq_true, Bool.or_eq_true, Bool.not_eq_true', Bool.and_eq_false_iff, Bool.or_eq_false_iff, Bool.not_eq_false', decide_eq_true_eq, decide_eq_false_iff_not, eqNil] at hg; omega) | (simp only [List.length_append, List.length_map, List.length_range, List.length_replicate, List.length_take, List.length_drop, List.length_cons, List.length_nil, List.length_set, List.length_reverse]; omega))
      first
      | (refine aOps_yes (by rfl) ?_; refine aOps_callV (V := .bool true) (by rfl) (by rfl) (c_lives02 w₀ hm ht10 _) ?_)
      | (refine aOps_gcall (V := .bool true) (f := _) (cap := _) (xs := _) rfl (fun hg => ⟨rfl, ?_⟩) (fun hg => c_lives02 w₀ hm ht10 _) ?_; · (simp (decide := true) only [gv, nthDst, Slots.get, if_true, if_false, guardB_bool_true, guardB_bool_false, guardB_cond, Bool.not_not] at hg; simp (decide := true) only [evs, ev, Slots.get, if_true, if_false, hg, condV_true, List.append_nil, List.map_cons, List.map_nil, absV, absS] <;> try rfl))
      simp (decide := true) only [aOps_nil, ev, absV, absS, putD, Slots.put, Slots.get, Slots.keep, if_true, if_false, true_and, ↓ap_pick, pop_pick, pPick_bool, pickV_and, ↓ap_assign, pop_assign, Bool.and_true]
      repeat (with_reducible refine And.intro ?_ ?_; · first | trivial | omega | (intro hg; simp only [Bool.and_eq_true, Bool.or_eq_true, Bool.not_eq_true', Bool.and_eq_false_iff, Bool.or_eq_false_iff, Bool.not_eq_false', decide_eq_true_eq, decide_eq_false_iff_not, eqNil] at hg; omega) | (simp only [List.length_append, List.length_map, List.length_range, List.length_replicate, List.length_take, List.length_drop, List.length_cons, List.length_nil, List.length_set, List.length_reverse]; omega))
      apply hK; clear hK K
      refine awp_ret ?_
      try simp only [thenA_ret, inBlockA_ret]
      refine retA_ret h (by repeat (first | exact Sub.refl _ | assumption | refine Sub.trans_set ?_ (by assumption))) (resPre_tmp (resPre_nil)) ?_
      simp (decide := true) only [Slots.get, if_true, and_true, resOf_one]
      all_goals first | rfl | exact ⟨rfl, rfl⟩ | (simp (decide := true) only [if_true, if_false, *]; done) | (trace_state; fail)
structure CdG where
  k : Nat
  b : Int
  A : Int × Int
structure CdOk (c : CardC) (i : Int) (g : CdG) : Prop where
  k : g.k ≤ c.marks.length
  go : validC.go c g.b (c.marks.drop g.k) = validC.go c (-1) c.marks
  zero : 0 < g.k → (c.marks.getD 0 ⟨0, 0, 0⟩).frm = 0
  low : -1 ≤ g.b
  pos : i ≤ c.text.length → g.A = atGo i (c.marks.take g.k) (0, 0)
theorem cards_bad {c : CardC} {i : Int} (h : validC c = false) : atE c i = (0, 0, 1) := by
  unfold atE
  rw [if_neg (by rintro ⟨e, _⟩; rw [h] at e; cases e)]
theorem cards_fin {c : CardC} {i : Int} {g : CdG} {ok : Bool} (h : CdOk c i g) (hk : g.k = c.marks.length) (ho : ok = (decide (0 < (c.marks.length : Int)) && decide (0 ≤ i) && decide (i ≤ (c.text.length : Int)))) :
    (ok = true ∧ atE c i = (g.A.1, g.A.2, 0)) ∨ (ok = false ∧ atE c i = (0, 0, 1)) := by
  by_cases hn : c.marks = []
  · refine .inr ⟨?_, cards_bad (by unfold validC; rw [hn])⟩
    rw [ho, hn]
    rfl
  · have hpos := List.length_pos_iff.2 hn
    have hv : validC c = true := by
      rw [validC_eq hn, decide_eq_true (h.zero (by omega)), ← h.go, hk, List.drop_length]
      rfl
    by_cases hi : 0 ≤ i ∧ i ≤ (c.text.length : Int)
    · refine .inl ⟨?_, ?_⟩
      · rw [ho, decide_eq_true (by omega), decide_eq_true hi.1, decide_eq_true hi.2]; rfl
      · have ha := h.pos hi.2
        rw [hk, List.take_length] at ha
        unfold atE
        rw [if_pos ⟨hv, hi.1, hi.2⟩, ha]
    · refine .inr ⟨?_, ?_⟩
      · rw [ho]
        by_cases h0 : 0 ≤ i
        · rw [decide_eq_false (fun e => hi ⟨h0, e⟩), Bool.and_false]
        · rw [decide_eq_false h0, Bool.and_false, Bool.false_and]
      · unfold atE
        rw [if_neg (by rintro ⟨_, e⟩; exact hi e)]
set_option maxHeartbeats 4000000 in
theorem l_ColumnsCards (w₀ : World) (hm : MaxL w₀) (ht10 : Tab10 w₀) (h : AHeap) (c : CardC) (mv : AVal) (hmv : IsL w₀ h 3 mv (c.marks.map markC)) (hcl : c.text.length ≤ 9223372036854775807) (hcm : c.marks.length ≤ 9223372036854775807) (i : Int) (hi0 : -9223372036854775808 ≤ i) (hi1 : i ≤ 9223372036854775807) :
    ACall Tryd.prog w₀ 7 [cardA c mv, .int .i64 i] h (fun x _ => x = .bool true) := by
  refine ACall.mono (R := fun x h' => x = .bool true ∧ h' = h) ?_ fun x h' hx => hx.1
  have hlv := hmv.live
  have hln := hmv.len Tryd.underlying37
  rw [List.length_map] at hln
  unfold cardA
  refine acall_intro (n := 172) (rs := [.tmp 4]) Tryd.func7 rfl rfl rfl rfl (Nat.le_of_ble_eq_true rfl) ?_
  simp only [initSlots]
  -- region 0  law.go:235
  refine awp_rseq [1, 2] (by rfl) fun K hK => ?_
  refine aOps_box (by rfl) (by rfl) (by rfl) fun k0q0 hk0q0 => ?_
  try have hf_0q0 : h k0q0 = none := by first | assumption | (simp only [AHeap.set_none] at hk0q0; simp only [hk0q0])
  skip
  simp (decide := true) only [aOps_nil, ev, absV, absS, putD, Slots.put, Slots.get, Slots.keep, if_true, if_false, true_and, ↓ap_assign, pop_assign, AVal.cells, Nat.zero_add]
  repeat (with_reducible refine And.intro ?_ ?_; · first | trivial | omega | (intro hg; simp only [Bool.and_eq_true, Bool.or_eq_true, Bool.not_eq_true', Bool.and_eq_false_iff, Bool.or_eq_false_iff, Bool.not_eq_false', decide_eq_true_eq, decide_eq_false_iff_not, eqNil] at hg; omega) | (simp only [List.length_append, List.length_map, List.length_range, List.length_replicate, List.length_take, List.length_drop, List.length_cons, List.length_nil, List.length_set, List.length_reverse]; omega))
  apply hK; clear hK K
  refine awp_seq ?_
  -- region 1  law.go:236
  refine awp_rseq [1, 2, 25] (by rfl) fun K hK => ?_
  simp (decide := true) only [aOps_nil, ev, absV, absS, putD, Slots.put, Slots.get, Slots.keep, if_true, if_false, true_and, ↓ap_fieldAddr, pop_fieldAddr, fa39_1, ↓ap_loadL, apL_mk, pLoad_one ag9, ↓ap_len, pop_len, pLen_str Tryd.underlying9, ↓ap_binOp, pop_binOp, isNilC_int, cond_false, pBinX_int, pI_gtr, ↓ap_move, pop_move, ↓ag_fieldAddr, agP, agQ_some, nthDst, gKnown_bool, guardB_bool_false, implies_true, fa39_2, ↓ag_loadL, agQL_some, agL_mk, agL_ld2, pLoad_one ag37, ↓ag_len, cv_len, cp_len, ↓ag_binOp, cv_binl, cp_binl, ↓ap_pick, pop_pick, pPick_bool, pickV_cond_r, pickV_or, rd_any, List.getD_cons_zero, List.getD_cons_succ, Nat.zero_add, lv_str, hlv, hln]
  repeat (with_reducible refine And.intro ?_ ?_; · first | trivial | omega | (intro hg; simp only [Bool.and_eq_true, Bool.or_eq_true, Bool.not_eq_true', Bool.and_eq_false_iff, Bool.or_eq_false_iff, Bool.not_eq_false', decide_eq_true_eq, decide_eq_false_iff_not, eqNil] at hg; omega) | (simp only [List.length_append, List.length_map, List.length_range, List.length_replicate, List.length_take, List.length_drop, List.length_cons, List.length_nil, List.length_set, List.length_reverse]; omega))
  apply hK; clear hK K
  refine awp_cond (b := _) rfl (fun hb1 => ?_) (fun hb1 => ?_)
  · try simp only [decide_eq_true_eq, Bool.or_eq_true] at hb1
    -- region 2  law.go:237
    refine awp_rseq [4] (by rfl) fun K hK => ?_
    refine aOps_callV (V := .bool true) (by rfl) (by rfl) (c_lives02 w₀ hm ht10 _) ?_
    simp (decide := true) only [aOps_nil, ev, putD, Slots.put, Slots.get, Slots.keep, if_true, if_false, true_and, ↓ap_assign, pop_assign]
    repeat (with_reducible refine And.intro ?_ ?_; · first | trivial | omega | (intro hg; simp only [Bool.and_eq_true, Bool.or_eq_true, Bool.not_eq_true', Bool.and_eq_false_iff, Bool.or_eq_false_iff, Bool.not_eq_false', decide_eq_true_eq, decide_eq_false_iff_not, eqNil] at hg; omega) | (simp only [List.length_append, List.length_map, List.length_range, List.length_replicate, List.length_take, List.length_drop, List.length_cons, List.length_nil, List.length_set, List.length_reverse]; omega))
    apply hK; clear hK K
    refine awp_ret ?_
    try simp only [thenA_ret]
    refine retA_ret h (by repeat (first | exact Sub.refl _ | assumption | refine Sub.trans_set ?_ (by assumption))) (resPre_tmp (resPre_nil)) ?_
    simp (decide := true) only [Slots.get, if_true, and_true, resOf_one]
    all_goals first | rfl | exact ⟨rfl, rfl⟩ | (simp (decide := true) only [if_true, if_false, *]; done) | (trace_state; fail)
  · try simp only [decide_eq_false_iff_not, Bool.or_eq_false_iff] at hb1
    obtain ⟨hl1, hl2⟩ := hb1
    have hl1 : c.text.length ≤ 100 := by omega
    have hl2 : c.marks.length ≤ 20 := by omega
    refine awp_skip ?_
    change Awp _ _ _ _ _ _ _
    -- region 3  law.go:239
    refine awp_rseq [1, 2, 5] (by rfl) fun K hK => ?_
    simp (decide := true) only [aOps_nil, ev, absV, absS, putD, Slots.put, Slots.get, Slots.keep, if_true, if_false, true_and, ↓ap_fieldAddr, pop_fieldAddr, fa39_2, ↓ap_loadL, apL_mk, pLoad_one ag37, ↓ap_len, pop_len, ↓ap_binOp, pop_binOp, isNilC_int, cond_false, pBinX_int, pI_gtr, ↓ap_move, pop_move, ↓ag_move, agP, agQ_some, nthDst, gKnown_bool, guardB_bool_true, implies_true, ↓ag_binOp, cv_binl, cv_binr, cp_binl, cp_binr, pI_geq, ↓ap_pick, pop_pick, pPick_bool, pickV_cond_l, pickV_and, ↓ag_fieldAddr, fa39_1, ↓ag_loadL, agQL_some, agL_mk, agL_ld1, pLoad_one ag9, ↓ag_len, pLen_str Tryd.underlying9, cv_len, cp_len, isNilC_tmp, pI_leq, ↓ap_assign, pop_assign, rd_any, List.getD_cons_zero, List.getD_cons_succ, Nat.zero_add, lv_str, hlv, hln]
    repeat (with_reducible refine And.intro ?_ ?_; · first | trivial | omega | (intro hg; simp only [Bool.and_eq_true, Bool.or_eq_true, Bool.not_eq_true', Bool.and_eq_false_iff, Bool.or_eq_false_iff, Bool.not_eq_false', decide_eq_true_eq, decide_eq_false_iff_not, eqNil] at hg; omega) | (simp only [List.length_append, List.length_map, List.length_range, List.length_replicate, List.length_take, List.length_drop, List.length_cons, List.length_nil, List.length_set, List.length_reverse]; omega))
    apply hK; clear hK K
    obtain ⟨ok0, hok0⟩ : ∃ b, b = (decide (0 < (c.marks.length : Int)) && decide (0 ≤ i) && decide (i ≤ (c.text.length : Int))) := ⟨_, rfl⟩
    rw [← hok0]
    -- region 4  law.go:240
    refine awp_rseq [1, 2, 5, 6, 7] (by rfl) fun K hK => ?_
    simp (decide := true) only [ev, absV, absS, putD, Slots.put, Slots.get, if_false, true_and, ↓ap_build, ↓pop_buildL, bld32_, evP, List.map_nil]
    repeat (with_reducible refine And.intro ?_ ?_; · first | trivial | omega | (intro hg; simp only [Bool.and_eq_true, Bool.or_eq_true, Bool.not_eq_true', Bool.and_eq_false_iff, Bool.or_eq_false_iff, Bool.not_eq_false', decide_eq_true_eq, decide_eq_false_iff_not, eqNil] at hg; omega) | (simp only [List.length_append, List.length_map, List.length_range, List.length_replicate, List.length_take, List.length_drop, List.length_cons, List.length_nil, List.length_set, List.length_reverse]; omega))
    refine aOps_alloc ze32 (cs := [.int .i64 0, .int .i64 0]) (by rfl) fun k4q1 hk4q1 => ?_
    have ne_4q1_0q0 : k4q1 ≠ k0q0 := by simp only [AHeap.set_none] at hk4q1; simp only [hk4q1, ne_eq, not_false_eq_true]
    try have hf_4q1 : h k4q1 = none := by first | assumption | (simp only [AHeap.set_none] at hk4q1; simp only [hk4q1])
    simp (decide := true) only [ev, absV, absS, putD, Slots.put, if_true, if_false, true_and, ↓ap_assign, pop_assign]
    repeat (with_reducible refine And.intro ?_ ?_; · first | trivial | omega | (intro hg; simp only [Bool.and_eq_true, Bool.or_eq_true, Bool.not_eq_true', Bool.and_eq_false_iff, Bool.or_eq_false_iff, Bool.not_eq_false', decide_eq_true_eq, decide_eq_false_iff_not, eqNil] at hg; omega) | (simp only [List.length_append, List.length_map, List.length_range, List.length_replicate, List.length_take, List.length_drop, List.length_cons, List.length_nil, List.length_set, List.length_reverse]; omega))
    refine aOps_store (by rfl) (by rfl) (by repeat (first | exact AHeap.set_same _ _ _ | assumption | refine (AHeap.set_ne _ _ (by first | assumption | exact Ne.symm (by assumption))).trans ?_)) sz32 (by rfl) (by rfl) (by first | exact Nat.le_refl _ | decide | (simp; done) | (simp; omega)) (Nat.zero_le _) (by rfl) ?_
    simp only [AHeap.set_set, AVal.cells]
    simp (decide := true) only [aOps_nil, ev, putD, Slots.get, Slots.keep, if_true, if_false, setAt, List.set_cons_zero, List.set_cons_succ, Nat.zero_add]
    repeat (with_reducible refine And.intro ?_ ?_; · first | trivial | omega | (intro hg; simp only [Bool.and_eq_true, Bool.or_eq_true, Bool.not_eq_true', Bool.and_eq_false_iff, Bool.or_eq_false_iff, Bool.not_eq_false', decide_eq_true_eq, decide_eq_false_iff_not, eqNil] at hg; omega) | (simp only [List.length_append, List.length_map, List.length_range, List.length_replicate, List.length_take, List.length_drop, List.length_cons, List.length_nil, List.length_set, List.length_reverse]; omega))
    apply hK; clear hK K
    refine awp_seq ?_
    -- region 5  law.go:241
    refine awp_rseq [1, 2, 5, 6, 7, 8] (by rfl) fun K hK => ?_
    simp (decide := true) only [aOps_nil, ev, absV, absS, putD, Slots.put, Slots.keep, if_true, if_false, true_and, ↓ap_assign, pop_assign]
    repeat (with_reducible refine And.intro ?_ ?_; · first | trivial | omega | (intro hg; simp only [Bool.and_eq_true, Bool.or_eq_true, Bool.not_eq_true', Bool.and_eq_false_iff, Bool.or_eq_false_iff, Bool.not_eq_false', decide_eq_true_eq, decide_eq_false_iff_not, eqNil] at hg; omega) | (simp only [List.length_append, List.length_map, List.length_range, List.length_replicate, List.length_take, List.length_drop, List.length_cons, List.length_nil, List.length_set, List.length_reverse]; omega))
    apply hK; clear hK K
    refine awp_block ?_
    refine awp_loopG [1, 2, 5, 6, 7, 8] (fun g : CdG => [(1, .int .i64 i), (2, .ptr (.own k0q0) 0), (5, .bool ok0), (6, .int .i64 g.b), (7, .ptr (.own k4q1) 0), (8, .int .i64 g.k)]) (fun g : CdG => (h.set k0q0 ⟨[.bool c.left, .str c.text, mv], 0⟩).set k4q1 ⟨[.int .i64 g.A.1, .int .i64 g.A.2], 0⟩) (fun g : CdG => CdOk c i g) (fun g : CdG => c.marks.length - g.k) ⟨0, -1, (0, 0)⟩ (by rfl) (Sub.refl _) ⟨Nat.zero_le _, rfl, fun e => absurd e (by decide), Int.le_refl _, fun _ => rfl⟩ ?_
    rintro ⟨k, b, A⟩ hg
    obtain ⟨g1, g2, g3, g5, g4⟩ := hg
    have hg0 : CdOk c i ⟨k, b, A⟩ := ⟨g1, g2, g3, g5, g4⟩
    simp only at g1 g2 g3 g4 g5 ⊢
    refine awp_seq ?_
    -- region 6  law.go:241
    refine awp_rseq [1, 2, 5, 6, 7, 8, 47] (by rfl) fun K hK => ?_
    simp (decide := true) only [aOps_nil, ev, putD, Slots.put, Slots.get, Slots.keep, if_true, if_false, true_and, ↓ap_move, pop_move, ↓ap_fieldAddr, pop_fieldAddr, fa39_2, ↓ap_loadL, apL_mk, pLoad_one ag37, ↓ap_len, pop_len, ↓ap_binOp, pop_binOp, isNilC_tmp, cond_false, pBinX_int, pI_lss, rd_ne', ne_eq, not_false_eq_true, ne_4q1_0q0.symm, rd_any, List.getD_cons_zero, List.getD_cons_succ, Nat.zero_add, hlv, hln]
    repeat (with_reducible refine And.intro ?_ ?_; · first | trivial | omega | (intro hg; simp only [Bool.and_eq_true, Bool.or_eq_true, Bool.not_eq_true', Bool.and_eq_false_iff, Bool.or_eq_false_iff, Bool.not_eq_false', decide_eq_true_eq, decide_eq_false_iff_not, eqNil] at hg; omega) | (simp only [List.length_append, List.length_map, List.length_range, List.length_replicate, List.length_take, List.length_drop, List.length_cons, List.length_nil, List.length_set, List.length_reverse]; omega))
    apply hK; clear hK K
    refine awp_cond (b := _) rfl (fun hb2 => ?_) (fun hb2 => ?_)
    · try simp only [decide_eq_true_eq] at hb2
      have hk' : k < c.marks.length := by omega
      have hn : c.marks ≠ [] := fun e => by rw [e] at hk'; simp at hk'
      obtain ⟨l, o, cp, e⟩ := hmv.open (fun e => hn (List.map_eq_nil_iff.1 e))
      rw [List.length_map] at e
      subst e
      have he := (hmv.mono (h' := (h.set k0q0 ⟨[.bool c.left, .str c.text, .slice l o c.marks.length cp], 0⟩).set k4q1 ⟨[.int .i64 A.1, .int .i64 A.2], 0⟩) (by repeat (first | exact Sub.refl _ | assumption | refine Sub.set_both ?_ _ _ | refine Sub.trans_set ?_ (by repeat (first | assumption | refine (AHeap.set_ne _ _ (by first | assumption | exact Ne.symm (by assumption))).trans ?_))))).elem (i := k) (by rw [List.length_map]; exact hk')
      rw [getD_map ⟨0, 0, 0⟩ hk'] at he
      simp only [cellsAt, markC, List.cons.injEq, and_true] at he
      obtain ⟨e0, e1, e2⟩ := he
      obtain ⟨m, hm'⟩ : ∃ m, m = c.marks.getD k ⟨0, 0, 0⟩ := ⟨_, rfl⟩
      have hgo := validC_go (c := c) (b := b) hk'
      rw [← hm'] at e0 e1 e2 hgo
      refine awp_skip ?_
      change Awp _ _ _ _ _ _ _
      refine awp_seq ?_
      refine awp_block ?_
      -- region 8  law.go:242
      refine awp_rseq [1, 2, 5, 6, 7, 8, 9] (by rfl) fun K hK => ?_
      simp (decide := true) only [ev, putD, Slots.put, Slots.get, if_true, if_false, true_and, ↓ap_fieldAddr, pop_fieldAddr, fa39_2, ↓ap_loadL, apL_mk, pLoad_one ag37, ↓ap_move, pop_move, ↓ap_indexAddrL, pIndexAddr_slice Tryd.underlying37 sz57, pLoad_agg ag57 sz57, rd_ne', ne_eq, not_false_eq_true, ne_4q1_0q0.symm, rd_any, cellsAt, List.getD_cons_zero, List.getD_cons_succ, Nat.zero_add, lv_int, allLive, Bool.and_true, hlv, e0, e1, e2, Int.toNat_natCast]
      repeat (with_reducible refine And.intro ?_ ?_; · first | trivial | omega | (intro hg; simp only [Bool.and_eq_true, Bool.or_eq_true, Bool.not_eq_true', Bool.and_eq_false_iff, Bool.or_eq_false_iff, Bool.not_eq_false', decide_eq_true_eq, decide_eq_false_iff_not, eqNil] at hg; omega) | (simp only [List.length_append, List.length_map, List.length_range, List.length_replicate, List.length_take, List.length_drop, List.length_cons, List.length_nil, List.length_set, List.length_reverse]; omega))
      refine aOps_alloc ze57 (cs := [.int .i64 0, .int .i64 0, .int .i64 0]) (by rfl) fun k8q5 hk8q5 => ?_
      have ne_8q5_0q0 : k8q5 ≠ k0q0 := by simp only [AHeap.set_none] at hk8q5; simp only [hk8q5, ne_eq, not_false_eq_true]
      have ne_8q5_4q1 : k8q5 ≠ k4q1 := by simp only [AHeap.set_none] at hk8q5; simp only [hk8q5, ne_eq, not_false_eq_true]
      try have hf_8q5 : h k8q5 = none := by first | assumption | (simp only [AHeap.set_none] at hk8q5; simp only [hk8q5])
      refine aOps_store (by rfl) (by rfl) (by repeat (first | exact AHeap.set_same _ _ _ | assumption | refine (AHeap.set_ne _ _ (by first | assumption | exact Ne.symm (by assumption))).trans ?_)) sz57 (by rfl) (by rfl) (by first | exact Nat.le_refl _ | decide | (simp; done) | (simp; omega)) (Nat.zero_le _) (by rfl) ?_
      simp only [AHeap.set_set, AVal.cells]
      simp (decide := true) only [aOps_nil, ev, putD, Slots.put, Slots.get, Slots.keep, if_true, if_false, setAt, List.set_cons_zero, List.set_cons_succ, Nat.zero_add, Nat.reduceAdd]
      repeat (with_reducible refine And.intro ?_ ?_; · first | trivial | omega | (intro hg; simp only [Bool.and_eq_true, Bool.or_eq_true, Bool.not_eq_true', Bool.and_eq_false_iff, Bool.or_eq_false_iff, Bool.not_eq_false', decide_eq_true_eq, decide_eq_false_iff_not, eqNil] at hg; omega) | (simp only [List.length_append, List.length_map, List.length_range, List.length_replicate, List.length_take, List.length_drop, List.length_cons, List.length_nil, List.length_set, List.length_reverse]; omega))
      apply hK; clear hK K
      refine awp_seq ?_
      -- region 9  law.go:243
      refine awp_rseq [1, 2, 5, 7, 8, 9, 93] (by rfl) fun K hK => ?_
      simp (decide := true) only [aOps_nil, ev, absV, absS, putD, Slots.put, Slots.get, Slots.keep, if_true, if_false, true_and, ↓ap_move, pop_move, ↓ap_binOp, pop_binOp, isNilC_int, cond_false, pBinX_int, pI_eql, ↓ag_fieldAddr, pop_fieldAddr, agP, agQ_some, nthDst, gKnown_bool, guardB_bool_true, guardB_bool_false, implies_true, fa57_0, cv_fieldAddr, cp_fieldAddr, ↓ag_loadL, agQL_some, agL_mk, agL_ld1, agL_ld2, pLoad_one ag3, ↓ag_binOp, cv_binl, cv_binr, cp_binl, cp_binr, pI_neq, ↓ap_pick, pop_pick, pPick_bool, pickV_cond_l, pickV_cond_r, pickV_and, pickV_or, ↓ag_move, isNilC_tmp, pI_leq, fa39_1, pLoad_one ag9, ↓ag_len, pop_len, pLen_str Tryd.underlying9, cv_len, cp_len, pI_geq, fa57_1, fa32_0, pI_lss, fa32_1, pI_gtr, rd_ne', ne_eq, not_false_eq_true, ne_4q1_0q0.symm, ne_8q5_0q0.symm, rd_any, List.getD_cons_zero, List.getD_cons_succ, Nat.zero_add, Nat.reduceAdd, lv_int, lv_str]
      repeat (with_reducible refine And.intro ?_ ?_; · first | trivial | omega | (intro hg; simp only [Bool.and_eq_true, Bool.or_eq_true, Bool.not_eq_true', Bool.and_eq_false_iff, Bool.or_eq_false_iff, Bool.not_eq_false', decide_eq_true_eq, decide_eq_false_iff_not, eqNil] at hg; omega) | (simp only [List.length_append, List.length_map, List.length_range, List.length_replicate, List.length_take, List.length_drop, List.length_cons, List.length_nil, List.length_set, List.length_reverse]; omega))
      apply hK; clear hK K
      refine awp_cond (b := _) rfl (fun hb3 => ?_) (fun hb3 => ?_)
      · try simp only [decide_eq_true_eq, decide_eq_false_iff_not, Bool.not_eq_true', Bool.and_eq_true, Bool.or_eq_true] at hb3
        have hv : validC c = false := by
          rw [validC_eq hn]
          by_cases h0 : (c.marks.getD 0 ⟨0, 0, 0⟩).frm = 0
          · have hk0 : k = 0 → m.frm = 0 := fun e => by rw [hm', e]; exact h0
            have hd : decide (b < m.frm ∧ m.frm < (c.text.length : Int) ∧ 1 ≤ m.line ∧ 8 ≤ m.col ∧ m.col ≤ 72) = false := decide_eq_false (by omega)
            rw [← g2, hgo, hd, Bool.false_and, Bool.and_false]
          · rw [decide_eq_false h0, Bool.false_and]
        -- region 10  law.go:244
        refine awp_rseq [1, 2, 5, 7] (by rfl) fun K hK => ?_
        simp (decide := true) only [aOps_nil, ev, absV, absS, putD, Slots.put, Slots.keep, if_true, if_false, true_and, ↓ap_assign, pop_assign]
        repeat (with_reducible refine And.intro ?_ ?_; · first | trivial | omega | (intro hg; simp only [Bool.and_eq_true, Bool.or_eq_true, Bool.not_eq_true', Bool.and_eq_false_iff, Bool.or_eq_false_iff, Bool.not_eq_false', decide_eq_true_eq, decide_eq_false_iff_not, eqNil] at hg; omega) | (simp only [List.length_append, List.length_map, List.length_range, List.length_replicate, List.length_take, List.length_drop, List.length_cons, List.length_nil, List.length_set, List.length_reverse]; omega))
        apply hK; clear hK K
        refine awp_exit ?_
        change Awp _ _ _ _ _ _ _
        refine Awp.keep [1, 2, 5, 7] ?_
        first
        | exact cardsEnd w₀ hm ht10 h _ (by repeat (first | exact Sub.refl _ | assumption | refine Sub.set_both ?_ _ _ | refine Sub.trans_set ?_ (by repeat (first | assumption | refine (AHeap.set_ne _ _ (by first | assumption | exact Ne.symm (by assumption))).trans ?_)))) k0q0 k4q1 c _ i A false (hmv.mono (by repeat (first | exact Sub.refl _ | assumption | refine Sub.set_both ?_ _ _ | refine Sub.trans_set ?_ (by repeat (first | assumption | refine (AHeap.set_ne _ _ (by first | assumption | exact Ne.symm (by assumption))).trans ?_))))) hl1 hl2 hi0 (by repeat (first | exact AHeap.set_same _ _ _ | assumption | refine (AHeap.set_ne _ _ (by first | assumption | exact Ne.symm (by assumption))).trans ?_)) (by repeat (first | exact AHeap.set_same _ _ _ | assumption | refine (AHeap.set_ne _ _ (by first | assumption | exact Ne.symm (by assumption))).trans ?_)) (.inr ⟨rfl, cards_bad hv⟩)
        | exact cardsEnd w₀ hm ht10 h _ (by repeat (first | exact Sub.refl _ | assumption | refine Sub.set_both ?_ _ _ | refine Sub.trans_set ?_ (by repeat (first | assumption | refine (AHeap.set_ne _ _ (by first | assumption | exact Ne.symm (by assumption))).trans ?_)))) k0q0 k4q1 c _ i A ok0 (hmv.mono (by repeat (first | exact Sub.refl _ | assumption | refine Sub.set_both ?_ _ _ | refine Sub.trans_set ?_ (by repeat (first | assumption | refine (AHeap.set_ne _ _ (by first | assumption | exact Ne.symm (by assumption))).trans ?_))))) hl1 hl2 hi0 (by repeat (first | exact AHeap.set_same _ _ _ | assumption | refine (AHeap.set_ne _ _ (by first | assumption | exact Ne.symm (by assumption))).trans ?_)) (by repeat (first | exact AHeap.set_same _ _ _ | assumption | refine (AHeap.set_ne _ _ (by first | assumption | exact Ne.symm (by assumption))).trans ?_)) hfin
      · try simp only [decide_eq_true_eq, decide_eq_false_iff_not, Bool.not_eq_false', Bool.and_eq_false_iff, Bool.or_eq_false_iff] at hb3
        have hgo2 : validC.go c m.frm (c.marks.drop (k + 1)) = validC.go c (-1) c.marks := by
          rw [← g2, hgo, decide_eq_true (by refine ⟨?_, ?_, ?_, ?_, ?_⟩ <;> omega), Bool.true_and]
        have hz : (c.marks.getD 0 ⟨0, 0, 0⟩).frm = 0 := by
          by_cases hk0 : k = 0
          · have : m.frm = 0 := by omega
            rw [hm', hk0] at this
            exact this
          · exact g3 (by omega)
        refine awp_skip ?_
        change Awp _ _ _ _ _ _ _
        -- region 11  law.go:247
        refine awp_rseq [1, 2, 5, 6, 7, 8, 9] (by rfl) fun K hK => ?_
        simp (decide := true) only [aOps_nil, ev, putD, Slots.put, Slots.get, Slots.keep, if_true, if_false, true_and, ↓ap_fieldAddr, pop_fieldAddr, fa57_0, ↓ap_loadL, apL_mk, pLoad_one ag3, ↓ap_assign, pop_assign, rd_any, List.getD_cons_zero, Nat.zero_add, lv_int]
        repeat (with_reducible refine And.intro ?_ ?_; · first | trivial | omega | (intro hg; simp only [Bool.and_eq_true, Bool.or_eq_true, Bool.not_eq_true', Bool.and_eq_false_iff, Bool.or_eq_false_iff, Bool.not_eq_false', decide_eq_true_eq, decide_eq_false_iff_not, eqNil] at hg; omega) | (simp only [List.length_append, List.length_map, List.length_range, List.length_replicate, List.length_take, List.length_drop, List.length_cons, List.length_nil, List.length_set, List.length_reverse]; omega))
        apply hK; clear hK K
        -- region 12  law.go:248
        refine awp_rseq [1, 2, 5, 6, 7, 8, 9, 99] (by rfl) fun K hK => ?_
        simp (decide := true) only [aOps_nil, ev, putD, Slots.put, Slots.get, Slots.keep, if_true, if_false, true_and, ↓ap_fieldAddr, pop_fieldAddr, fa57_0, ↓ap_loadL, apL_mk, pLoad_one ag3, ↓ap_move, pop_move, ↓ap_binOp, pop_binOp, isNilC_tmp, cond_false, pBinX_int, pI_leq, rd_any, List.getD_cons_zero, Nat.zero_add, lv_int]
        repeat (with_reducible refine And.intro ?_ ?_; · first | trivial | omega | (intro hg; simp only [Bool.and_eq_true, Bool.or_eq_true, Bool.not_eq_true', Bool.and_eq_false_iff, Bool.or_eq_false_iff, Bool.not_eq_false', decide_eq_true_eq, decide_eq_false_iff_not, eqNil] at hg; omega) | (simp only [List.length_append, List.length_map, List.length_range, List.length_replicate, List.length_take, List.length_drop, List.length_cons, List.length_nil, List.length_set, List.length_reverse]; omega))
        apply hK; clear hK K
        refine awp_cond (b := _) rfl (fun hb4 => ?_) (fun hb4 => ?_)
        · try simp only [decide_eq_true_eq] at hb4
          -- region 13  law.go:249
          refine awp_r [1, 2, 5, 6, 7, 8] (by rfl) ?_
          simp (decide := true) only [ev, absV, absS, putD, Slots.put, Slots.get, if_true, if_false, true_and, ↓ap_fieldAddr, pop_fieldAddr, fa57_1, fa32_0, ↓ap_loadL, apL_mk, pLoad_one ag3, fa32_1, ↓ap_move, pop_move, fa57_0, ↓ap_binOp, pop_binOp, isNilC_tmp, cond_false, pBinX_int, pI_sub, pI_add, ↓ap_build, ↓pop_buildL, bld32_0_1, evP, List.map_cons, List.map_nil, rd_any, List.getD_cons_zero, List.getD_cons_succ, Nat.zero_add, Nat.reduceAdd, lv_int]
          try simp (disch := omega) only [wrap_i64]
          repeat (with_reducible refine And.intro ?_ ?_; · first | trivial | omega | (intro hg; simp only [Bool.and_eq_true, Bool.or_eq_true, Bool.not_eq_true', Bool.and_eq_false_iff, Bool.or_eq_false_iff, Bool.not_eq_false', decide_eq_true_eq, decide_eq_false_iff_not, eqNil] at hg; omega) | (simp only [List.length_append, List.length_map, List.length_range, List.length_replicate, List.length_take, List.length_drop, List.length_cons, List.length_nil, List.length_set, List.length_reverse]; omega))
          refine aOps_store (by rfl) (by rfl) (by repeat (first | exact AHeap.set_same _ _ _ | assumption | refine (AHeap.set_ne _ _ (by first | assumption | exact Ne.symm (by assumption))).trans ?_)) sz32 (by rfl) (by rfl) (by first | exact Nat.le_refl _ | decide | (simp; done) | (simp; omega)) (Nat.zero_le _) (by rfl) ?_
          simp only [AVal.cells]
          simp (decide := true) only [aOps_nil, ev, putD, Slots.get, Slots.keep, if_true, if_false, setAt, List.set_cons_zero, List.set_cons_succ, Nat.zero_add]
          repeat (with_reducible refine And.intro ?_ ?_; · first | trivial | omega | (intro hg; simp only [Bool.and_eq_true, Bool.or_eq_true, Bool.not_eq_true', Bool.and_eq_false_iff, Bool.or_eq_false_iff, Bool.not_eq_false', decide_eq_true_eq, decide_eq_false_iff_not, eqNil] at hg; omega) | (simp only [List.length_append, List.length_map, List.length_range, List.length_replicate, List.length_take, List.length_drop, List.length_cons, List.length_nil, List.length_set, List.length_reverse]; omega))
          change Awp _ _ _ _ _ _ _
          -- region 7  law.go:241
          refine awp_r [1, 2, 5, 6, 7, 8] (by rfl) ?_
          simp (decide := true) only [aOps_nil, ev, absV, absS, putD, Slots.put, Slots.get, Slots.keep, if_true, if_false, true_and, ↓ap_move, pop_move, ↓ap_binOp, pop_binOp, isNilC_int, cond_false, pBinX_int, pI_add, ↓ap_assign, pop_assign]
          try simp (disch := omega) only [wrap_i64]
          repeat (with_reducible refine And.intro ?_ ?_; · first | trivial | omega | (intro hg; simp only [Bool.and_eq_true, Bool.or_eq_true, Bool.not_eq_true', Bool.and_eq_false_iff, Bool.or_eq_false_iff, Bool.not_eq_false', decide_eq_true_eq, decide_eq_false_iff_not, eqNil] at hg; omega) | (simp only [List.length_append, List.length_map, List.length_range, List.length_replicate, List.length_take, List.length_drop, List.length_cons, List.length_nil, List.length_set, List.length_reverse]; omega))
          try simp only [thenA_normal]
          first
          | (have hq : ¬ m.frm ≤ i := hb4
             refine ⟨⟨k + 1, m.frm, A⟩, rfl, (by repeat (first | exact Sub.refl _ | assumption | refine Sub.set_both ?_ _ _ | refine Sub.trans_set ?_ (by repeat (first | assumption | refine (AHeap.set_ne _ _ (by first | assumption | exact Ne.symm (by assumption))).trans ?_)))), ⟨hk', hgo2, fun _ => hz, by simp only; omega, fun hi => ?_⟩, by simp only; omega⟩
             simp only at hi ⊢
             rw [atGo_take hk', ← hm', if_neg hb4]
             exact g4 hi)
          | (refine ⟨⟨k + 1, m.frm, (m.line, IntKind.i64.wrap (m.col + (i - m.frm)))⟩, rfl, ?_, ⟨hk', hgo2, fun _ => hz, by simp only; omega, fun hi => ?_⟩, by simp only; omega⟩
             · dsimp only
               rw [AHeap.set_comm _ _ _ (by assumption : k8q5 ≠ k4q1).symm, AHeap.set_set]
               refine Sub.set ?_
               rw [AHeap.set_ne _ _ ne_8q5_4q1, AHeap.set_ne _ _ ne_8q5_0q0]
               exact hf_8q5
             · simp only at hi ⊢
               rw [atGo_take hk', ← hm', if_pos hb4]
               congr 1
               simp (disch := omega) only [wrap_i64]
               omega)
        · try simp only [decide_eq_false_iff_not] at hb4
          refine awp_skip ?_
          change Awp _ _ _ _ _ _ _
          -- region 7  law.go:241
          refine awp_r [1, 2, 5, 6, 7, 8] (by rfl) ?_
          simp (decide := true) only [aOps_nil, ev, absV, absS, putD, Slots.put, Slots.get, Slots.keep, if_true, if_false, true_and, ↓ap_move, pop_move, ↓ap_binOp, pop_binOp, isNilC_int, cond_false, pBinX_int, pI_add, ↓ap_assign, pop_assign]
          try simp (disch := omega) only [wrap_i64]
          repeat (with_reducible refine And.intro ?_ ?_; · first | trivial | omega | (intro hg; simp only [Bool.and_eq_true, Bool.or_eq_true, Bool.not_eq_true', Bool.and_eq_false_iff, Bool.or_eq_false_iff, Bool.not_eq_false', decide_eq_true_eq, decide_eq_false_iff_not, eqNil] at hg; omega) | (simp only [List.length_append, List.length_map, List.length_range, List.length_replicate, List.length_take, List.length_drop, List.length_cons, List.length_nil, List.length_set, List.length_reverse]; omega))
          try simp only [thenA_normal]
          first
          | (have hq : ¬ m.frm ≤ i := hb4
             refine ⟨⟨k + 1, m.frm, A⟩, rfl, (by repeat (first | exact Sub.refl _ | assumption | refine Sub.set_both ?_ _ _ | refine Sub.trans_set ?_ (by repeat (first | assumption | refine (AHeap.set_ne _ _ (by first | assumption | exact Ne.symm (by assumption))).trans ?_)))), ⟨hk', hgo2, fun _ => hz, by simp only; omega, fun hi => ?_⟩, by simp only; omega⟩
             simp only at hi ⊢
             rw [atGo_take hk', ← hm', if_neg hb4]
             exact g4 hi)
          | (refine ⟨⟨k + 1, m.frm, (m.line, IntKind.i64.wrap (m.col + (i - m.frm)))⟩, rfl, ?_, ⟨hk', hgo2, fun _ => hz, by simp only; omega, fun hi => ?_⟩, by simp only; omega⟩
             · dsimp only
               rw [AHeap.set_comm _ _ _ (by assumption : k8q5 ≠ k4q1).symm, AHeap.set_set]
               refine Sub.set ?_
               rw [AHeap.set_ne _ _ ne_8q5_4q1, AHeap.set_ne _ _ ne_8q5_0q0]
               exact hf_8q5
             · simp only at hi ⊢
               rw [atGo_take hk', ← hm', if_pos hb4]
               congr 1
               simp (disch := omega) only [wrap_i64]
               omega)
    · try simp only [decide_eq_false_iff_not] at hb2
      have hfin := cards_fin hg0 (by simp only; omega) hok0
      refine awp_exit ?_
      change Awp _ _ _ _ _ _ _
      refine Awp.keep [1, 2, 5, 7] ?_
      first
      | exact cardsEnd w₀ hm ht10 h _ (by repeat (first | exact Sub.refl _ | assumption | refine Sub.set_both ?_ _ _ | refine Sub.trans_set ?_ (by repeat (first | assumption | refine (AHeap.set_ne _ _ (by first | assumption | exact Ne.symm (by assumption))).trans ?_)))) k0q0 k4q1 c _ i A false (hmv.mono (by repeat (first | exact Sub.refl _ | assumption | refine Sub.set_both ?_ _ _ | refine Sub.trans_set ?_ (by repeat (first | assumption | refine (AHeap.set_ne _ _ (by first | assumption | exact Ne.symm (by assumption))).trans ?_))))) hl1 hl2 hi0 (by repeat (first | exact AHeap.set_same _ _ _ | assumption | refine (AHeap.set_ne _ _ (by first | assumption | exact Ne.symm (by assumption))).trans ?_)) (by repeat (first | exact AHeap.set_same _ _ _ | assumption | refine (AHeap.set_ne _ _ (by first | assumption | exact Ne.symm (by assumption))).trans ?_)) (.inr ⟨rfl, cards_bad hv⟩)
      | exact cardsEnd w₀ hm ht10 h _ (by repeat (first | exact Sub.refl _ | assumption | refine Sub.set_both ?_ _ _ | refine Sub.trans_set ?_ (by repeat (first | assumption | refine (AHeap.set_ne _ _ (by first | assumption | exact Ne.symm (by assumption))).trans ?_)))) k0q0 k4q1 c _ i A ok0 (hmv.mono (by repeat (first | exact Sub.refl _ | assumption | refine Sub.set_both ?_ _ _ | refine Sub.trans_set ?_ (by repeat (first | assumption | refine (AHeap.set_ne _ _ (by first | assumption | exact Ne.symm (by assumption))).trans ?_))))) hl1 hl2 hi0 (by repeat (first | exact AHeap.set_same _ _ _ | assumption | refine (AHeap.set_ne _ _ (by first | assumption | exact Ne.symm (by assumption))).trans ?_)) (by repeat (first | exact AHeap.set_same _ _ _ | assumption | refine (AHeap.set_ne _ _ (by first | assumption | exact Ne.symm (by assumption))).trans ?_)) hfin
end Go.Proofs.YtikpnhdjjabdmaaDoor

/-
  The arguments of the statements, opened: booleans, texts, integers, pairs of bytes; the wrap that hands on the world's shape.
  Conditions: none.
-/
namespace Go.Proofs.YtikpnhdjjabdmaaDoor
open Go.AM
open Go.ChangeShapes Go.WideShapes Go.ChangeAt Go.RowKit
set_option maxRecDepth 100000

section
variable {H : Type} {enc : TypeId × Value → H} {W : World} {base : Nat} {v : Value} {x : DataW H × List MemPlace}
theorem arg_i64 {t : TypeId} (ht : Tryd.prog.underlying t = some (.int .i64)) (h : ∃ fuel, DataW.trod enc Tryd.prog W 0 (fun _ => true) true fuel t v.cells.toList = some x) (hv : Value.okWide Tryd.prog W .any base t v) :
    ∃ n : Int, VR (fun _ => none) (.int .i64 n) v ∧ -9223372036854775808 ≤ n ∧ n ≤ 9223372036854775807 := by
  obtain ⟨fuel, hf⟩ := h
  obtain ⟨n, hcs, _, hw⟩ := DataW.trod_int ht hf
  obtain ⟨m, rfl⟩ := okWide_int ht hv
  simp [Value.cells] at hcs
  subst hcs
  exact ⟨m, by simp only [VR], wf_i64 hw⟩

end

/-- The plain wrap of a row with listed variables, the world's shape handed on. -/
theorem returns_and_shaped {H : Type} {enc : TypeId × Value → H} {a : Assume} {C : Checked} {os : Os} {f : FuncId} {fn : Func} {s : ChangeSpec} {conds : List PathCond} {apart fresh handsOn again : Bool} {X : World → Array Value → Prop}
    (hX : ∀ (w w' : World) (args : Array Value), w.heap = w'.heap → X w args → X w' args)
    (own : ownKnob C.prog.godebug = none) (started : os.Started) (noInit : C.prog.inits.idxOf? f = none) (hfn : C.prog.funcs[f]? = some fn)
    (witness : ∃ (w : World) (tape : Tape) (i : Input), w.os = os ∧ (w.forCall tape i).Shaped C.prog ∧ i.vars = [] ∧ Input.okWide C.prog (w.forCall tape i) .any w.heap.size f i ∧
      ((s.pre enc C.prog fn conds apart (w.forCall tape i).memory i.args ∧ X (w.forCall tape i).memory i.args) ∧ sizedMet enc C.prog fn (OpenSpec.ofChange s) apart (w.forCall tape i).memory i.args) ∧ a.holds C.prog (lone (Frame.enter C.prog f i.args .normal) [] (w.forCall tape i)))
    (contract : ∀ (W : World) (base : Nat) (args : Array Value) (ds gs : List (DataW H)) (before : List MemPlace), W.ShapedOpen C.prog →
      (∀ (j : Nat) t v, fn.params[j]? = some t → args[j]? = some v → Value.okWide C.prog W .any base t v) →
      DataW.Whole enc C.prog fn.params.toList s.vars apart W args.toList ds gs before →
      conds.all (PathCond.test C.prog ⟨fn.params.toList, ds, s.plain.varTypes C.prog, gs⟩) = true →
      (DataW.weightsEach C.prog (fn.params.toList ++ s.plain.varTypes C.prog) (ds ++ gs)).all (· ≤ reachBytes) = true → X W args →
      a.holds C.prog (lone (Frame.enter C.prog f args .normal) [] W) →
      Calls C.prog f args W fun e W' => ∃ v, e = .returned v ∧ s.post enc C.prog fn apart fresh handsOn again W args v W') :
    ReturnsInHanded a C os f .any (fun w args => (s.pre enc C.prog fn conds apart w args ∧ X w args) ∧ sizedMet enc C.prog fn (OpenSpec.ofChange s) apart w args) (s.post enc C.prog fn apart fresh handsOn again) := by
  refine returnsInHanded_of_calls own started noInit witness ?_
  intro w tape i _ hsh _ hok hpre hholds
  obtain ⟨_, _, _, fn', hfn', _, _, _, _, hval⟩ := hok
  have e : fn' = fn := Option.some.inj (hfn'.symm.trans hfn)
  subst e
  obtain ⟨⟨⟨ds, gs, before, hw, hc⟩, hx⟩, hz⟩ := hpre
  have hw' := DataW.Whole.of_heap (w' := w.forCall tape i) (by rfl) hw
  refine (contract (w.forCall tape i) w.heap.size i.args ds gs before hsh hval hw' hc (hz.weights hw) (hX _ _ _ (by rfl) hx) hholds).mono fun e W' ⟨v, he, hp⟩ => ?_
  subst he
  exact ChangeSpec.post_blind hp
end Go.Proofs.YtikpnhdjjabdmaaDoor

/-
  What the world of a statement about columns gives: the listed table, the cell of the longest text.
  Conditions: none.
-/
namespace Go.Proofs.YtikpnhdjjabdmaaDoor
open Go.AM
open Go.ChangeShapes Go.WideShapes Go.ChangeAt Go.RowKit
set_option maxRecDepth 100000
/-- The listed table of powers of ten. -/
theorem tab_of {W : World} {rest : List (String × DataW Unit)} (h : laidMet Tryd.prog (("internal/strconv.uint64pow10", Rows.laid_internal_strconv_uint64pow10) :: rest) W) : Tab10 W :=
  Lib.tabIs_of_head (g := 3) (by kernel_rfl) (by kernel_rfl) (show Tryd.prog.underlying 138 = _ from Tryd.underlying138) Tryd.underlying116 (by kernel_rfl) (by kernel_rfl) h
theorem maxl_of {W : World} (h : W.ShapedOpen Tryd.prog) : MaxL W :=
  cell_of_shapedOpen_int (t := 3) (zero := #[.int .i64 0]) h (of_decide_eq_true (by kernel_rfl)) (by kernel_rfl) rfl (by kernel_rfl) (by kernel_rfl) Tryd.underlying3
end Go.Proofs.YtikpnhdjjabdmaaDoor

/-
  The arguments of the statements, opened: cards.
  Conditions: none.
-/
namespace Go.Proofs.YtikpnhdjjabdmaaDoor
open Go.AM
open Go.Col
open Go.ChangeShapes Go.WideShapes Go.ChangeAt Go.RowKit
set_option maxRecDepth 100000

section
variable {H : Type} {enc : TypeId × Value → H} {W : World} {base : Nat} {v : Value} {x : DataW H × List MemPlace}

theorem mark_cells {n : Nat} {cs : List Value} {y : DataW H × List MemPlace} (h : DataW.trod enc Tryd.prog W 0 (fun _ => true) true n 57 cs = some y) :
    ∃ m : MarkC, cs = [.int .i64 m.frm, .int .i64 m.line, .int .i64 m.col] := by
  obtain ⟨y0, y1, n', _, hl, h0, h1⟩ := trod_struct2 Tryd.underlying57 h
  obtain ⟨z0, z1, n'', _, hl', g0, g1⟩ := trod_struct2 Tryd.underlying32 h1
  rw [show Tryd.prog.cellsOf 57 = 3 by kernel_rfl] at hl
  match cs, hl with
  | [c0, c1, c2], _ =>
    simp only [show Tryd.prog.cellsOf 3 = 1 by kernel_rfl, show Tryd.prog.cellsOf 32 = 2 by kernel_rfl, List.drop_zero, List.drop_succ_cons, List.take_succ_cons, List.take_zero] at h0 g0 g1
    obtain ⟨a, e0, _, _⟩ := DataW.trod_int Tryd.underlying3 h0
    obtain ⟨b, e1, _, _⟩ := DataW.trod_int Tryd.underlying3 g0
    obtain ⟨c, e2, _, _⟩ := DataW.trod_int Tryd.underlying3 g1
    simp only [List.cons.injEq, and_true] at e0 e1 e2
    subst e0 e1 e2
    exact ⟨⟨a, b, c⟩, rfl⟩
theorem marks_row {a : Addr} {len : Nat} (h : ∀ i, i < len → ∃ m : MarkC, ∀ j, j < 3 → W.cell? (a.add (i * 3 + j)) = ([.int .i64 m.frm, .int .i64 m.line, .int .i64 m.col] : List Value)[j]?) :
    ∃ ms : List MarkC, ms.length = len ∧ ∀ i, i < len → ∀ j, j < 3 → W.cell? (a.add (i * 3 + j)) = ([.int .i64 (ms.getD i ⟨0, 0, 0⟩).frm, .int .i64 (ms.getD i ⟨0, 0, 0⟩).line, .int .i64 (ms.getD i ⟨0, 0, 0⟩).col] : List Value)[j]? := by
  induction len with
  | zero => exact ⟨[], rfl, fun i hi => by omega⟩
  | succ n ih =>
    obtain ⟨ms, h1, h2⟩ := ih fun i hi => h i (by omega)
    obtain ⟨m, hm⟩ := h n (by omega)
    refine ⟨ms ++ [m], by simp [h1], fun i hi j hj => ?_⟩
    by_cases hin : i < n
    · have : (ms ++ [m]).getD i ⟨0, 0, 0⟩ = ms.getD i ⟨0, 0, 0⟩ := by simp only [List.getD, List.getElem?_append_left (show i < ms.length by omega)]
      rw [this]
      exact h2 i hin j hj
    · have hin' : i = n := by omega
      subst hin'
      have : (ms ++ [m]).getD i ⟨0, 0, 0⟩ = m := by simp [List.getD, h1]
      rw [this]
      exact hm j hj
theorem isL_marks {w : World} {b o len cap : Nat} {ms : List MarkC} (h1 : ms.length = len) (hcap : len ≤ cap) (h2 : ∀ i, i < len → ∀ j, j < 3 → w.cell? ((⟨b, o, none⟩ : Addr).add (i * 3 + j)) = ([.int .i64 (ms.getD i ⟨0, 0, 0⟩).frm, .int .i64 (ms.getD i ⟨0, 0, 0⟩).line, .int .i64 (ms.getD i ⟨0, 0, 0⟩).col] : List Value)[j]?) :
    IsL w (fun _ => none) 3 (.slice (.base b) o len (.exact cap)) (ms.map markC) := by
  have hw : ∀ x ∈ ms.map markC, x.length = 3 := fun x hx => by obtain ⟨y, _, rfl⟩ := List.mem_map.1 hx; rfl
  refine .mk _ _ _ _ _ (by rw [List.length_map, h1]) hw ?_ (allLive_flatten.2 fun x hx => by obtain ⟨y, _, rfl⟩ := List.mem_map.1 hx; rfl) hcap
  apply List.ext_getElem?
  intro q
  by_cases hq : q < len * 3
  · rw [cellsAt_get _ _ _ _ _ _ hq]
    obtain ⟨i, hi⟩ : ∃ i, i = q / 3 := ⟨_, rfl⟩
    obtain ⟨j, hj⟩ : ∃ j, j = q % 3 := ⟨_, rfl⟩
    have hqe : q = i * 3 + j := by omega
    have hi' : i < len := by omega
    have hj' : j < 3 := by omega
    have hcell := h2 i hi' j hj'
    have ea : (⟨b, o, none⟩ : Addr).add (i * 3 + j) = ⟨b, o + (i * 3 + j), none⟩ := by by_cases e : i * 3 + j = 0 <;> simp [Addr.add, e] <;> omega
    rw [ea] at hcell
    rw [hqe, flatten_get hw (by rw [List.length_map]; omega) hj', getD_map ⟨0, 0, 0⟩ (by omega)]
    have fin : ∀ z : Int, w.cell? ⟨b, o + (i * 3 + j), none⟩ = some (.int .i64 z) → AM.rd w (fun _ => none) (.base b) (o + (i * 3 + j)) = .int .i64 z := fun z hz => by
      have hlt : b < w.heap.size := cell_lt hz
      simp only [AM.rd, hlt, if_true, hz, absS]
    match j, hj' with
    | 0, _ => rw [fin _ hcell]; rfl
    | 1, _ => rw [fin _ hcell]; rfl
    | 2, _ => rw [fin _ hcell]; rfl
  · rw [List.getElem?_eq_none (by rw [cellsAt_length]; omega), List.getElem?_eq_none (by rw [flatten_len hw, List.length_map, h1]; omega)]
theorem arg_Card (h : ∃ fuel, DataW.trod enc Tryd.prog W 0 (fun _ => true) true fuel 39 v.cells.toList = some x) (hv : Value.okWide Tryd.prog W .any base 39 v) :
    ∃ (c : CardC) (mv : AVal), VR (fun _ => none) (cardA c mv) v ∧ IsL W (fun _ => none) 3 mv (c.marks.map markC) ∧ c.text.length ≤ 9223372036854775807 ∧ c.marks.length ≤ 9223372036854775807 := by
  obtain ⟨cs, rfl, hsz⟩ := okWide_struct Tryd.underlying39 hv
  obtain ⟨fuel, hf⟩ := h
  obtain ⟨y0, y1, y2, n, _, hl, h0, h1, h2⟩ := Go.Deep.trod_struct3 Tryd.underlying39 hf
  rw [show Tryd.prog.cellsOf 39 = 3 by kernel_rfl] at hsz hl
  obtain ⟨l⟩ := cs
  match l, hsz with
  | [c0, c1, c2], _ =>
    simp only [show Tryd.prog.cellsOf 4 = 1 by kernel_rfl, show Tryd.prog.cellsOf 9 = 1 by kernel_rfl, show Tryd.prog.cellsOf 37 = 1 by kernel_rfl, Value.cells, List.drop_zero, List.drop_succ_cons, List.take_succ_cons, List.take_zero] at h0 h1 h2
    obtain ⟨b, e0, _⟩ := DataW.trod_bool Tryd.underlying4 h0
    obtain ⟨s, e1, _, hs⟩ := DataW.trod_string Tryd.underlying9 h1
    simp only [List.cons.injEq, and_true] at e0 e1
    subst e0 e1
    have fin : ∀ (mv : AVal) (ms : List MarkC), VR (fun _ => none) mv c2 → IsL W (fun _ => none) 3 mv (ms.map markC) → ms.length ≤ 9223372036854775807 → ∃ (c : CardC) (mv : AVal), VR (fun _ => none) (cardA c mv) (.agg #[.bool b, .string s, c2]) ∧ IsL W (fun _ => none) 3 mv (c.marks.map markC) ∧ c.text.length ≤ 9223372036854775807 ∧ c.marks.length ≤ 9223372036854775807 := by
      intro mv ms hvr hm hml
      refine ⟨⟨b, s.data.toList, ms⟩, mv, ?_, hm, str_le hs, hml⟩
      simp only [cardA, VR]
      refine ⟨_, rfl, ?_⟩
      simp only [VRs]
      exact ⟨_, _, rfl, by simp only [VR], _, _, rfl, VR_strArg _ s, _, _, rfl, hvr, rfl⟩
    rcases DataW.trod_slice Tryd.underlying37 h2 with ⟨hcs, _⟩ | ⟨a, len, cap, elems, rest, n', _, hcs, _, _, hlc, hcm, hel, hcell, hspare, _⟩
    · simp only [List.cons.injEq, and_true] at hcs
      subst hcs
      exact fin .nilSlice [] (by simp [VR]) .nil (by simp)
    · simp only [List.cons.injEq, and_true] at hcs
      subst hcs
      have hlen : len ≤ 9223372036854775807 := Nat.le_trans hlc hcm
      obtain ⟨ms, m1, m2⟩ := marks_row (W := W) (a := a) (len := len) fun i hi => by
        have he := hcell i hi
        rw [List.getElem?_eq_getElem (by omega), Option.bind_eq_some_iff] at he
        obtain ⟨cs', hcs', hy⟩ := he
        obtain ⟨m, rfl⟩ := mark_cells hy
        rw [show Tryd.prog.cellsOf 57 = 3 by kernel_rfl] at hcs'
        refine ⟨m, fun j hj => ?_⟩
        have := (World.cells?_some hcs').2.2 j hj
        rw [← this]
        congr 1
        obtain ⟨ab, ao, asp⟩ := a
        by_cases e1 : i * 3 = 0 <;> by_cases e2 : j = 0 <;> simp [Addr.add, e1, e2, Nat.add_assoc]
      obtain ⟨ab, ao, asp⟩ := a
      rcases Nat.eq_zero_or_pos len with e | e
      · have hms : ms = [] := List.eq_nil_of_length_eq_zero (by omega)
        subst hms
        subst e
        refine fin (.slice (.base ab) ao 0 (.exact cap)) [] ?_ (isL_marks rfl (Nat.zero_le _) fun i hi => by omega) (by simp)
        simp only [VR]
        refine ⟨_, rfl, fun hc => ?_⟩
        have hc : 0 < cap := by omega
        obtain ⟨r1, r2⟩ := hspare rfl
        have hr := r2 0 (by omega)
        rw [List.getElem?_eq_getElem (by omega), Option.bind_eq_some_iff] at hr
        obtain ⟨cs', hcs', hy⟩ := hr
        obtain ⟨m, rfl⟩ := mark_cells hy
        rw [show Tryd.prog.cellsOf 57 = 3 by kernel_rfl] at hcs'
        have h3 := (World.cells?_some hcs').2.2 0 (by omega)
        have := World.cell?_spot (h3.trans rfl)
        simp only [Addr.add] at this
        simp at this
        subst this
        rfl
      · have hs : asp = none := by
          have := World.cell?_spot (m2 0 (by omega) 0 (by omega))
          simpa [Addr.add] using this
        subst hs
        refine fin (.slice (.base ab) ao len (.exact cap)) ms ?_ (isL_marks m1 hlc m2) (by omega)
        simp only [VR]
        exact ⟨_, rfl, fun _ => rfl⟩
end
end Go.Proofs.YtikpnhdjjabdmaaDoor

