/-
  Texts of this proof, joined: CoS, LwR, LwS.
  Conditions: none.
-/
import Derived.Test.YtikpnhdjjabdmaaDoorKe
import Derived.Test.YtikpnhdjjabdmaaDoorProg
import Derived.Test.YtikpnhdjjabdmaaDoorKb
import Derived.WalkKit
import Derived.ProofKit
import Derived.OpenShut
import Derived.ShutString
import Derived.ChangeOld
import Derived.Below
import Derived.Deep.Strs
import Derived.Handed
import Derived.HandedShaped
import Derived.Shelf.Vars
import Derived.Test.YtikpnhdjjabdmaaDoorRows
import Derived.Lib.LaidTab
import Derived.MakeChecks
set_option linter.unusedSimpArgs false
set_option linter.unnecessarySimpa false
set_option linter.unusedVariables false
/-
  The statement ColumnsMarks, walked.
  Conditions: none.
-/
namespace Go.Proofs.YtikpnhdjjabdmaaDoor
open Go.AM
open Go.Proofs
open Go.Col
set_option maxRecDepth 100000

theorem strs_at {l : List Str} {i : Nat} (hi : i < l.length) : (l.map AVal.str).getD i .dead = .str (l.getD i []) := by
  simp [List.getD, hi]
theorem padE_at {s : Str} {i : Nat} (h : i < 72) : (padE s).getD i 0 = if i < s.length then s.getD i 0 else 32 := by
  unfold padE sp
  by_cases hi : i < s.length
  · rw [getD_l hi, if_pos hi]
  · rw [getD_r (by omega), if_neg hi, List.getD, List.getElem?_replicate, if_pos (by omega)]
    rfl
theorem rd_sub {w₀ : World} {h h' : AHeap} {l : AM.Loc} {o : Nat} {v : AVal} (hv : rd w₀ h l o = v) (hl : v.live = true) (hs : Sub h h') : rd w₀ h' l o = v := by
  have := cellsAt_mono (w₀ := w₀) (l := l) hs 1 o (by simp only [cellsAt, allLive, hv, hl, Bool.and_self])
  simp only [cellsAt, List.cons.injEq, and_true] at this
  rw [this, hv]
set_option maxHeartbeats 4000000 in
theorem l_ColumnsMarks (w₀ : World) (hm : MaxL w₀) (ht10 : Tab10 w₀) (h : AHeap) (text : Str) (hl : text.length ≤ 9223372036854775807) (dbg : Bool) :
    ACall Tryd.prog w₀ 6 [.str text, .bool dbg] h (fun x _ => x = .bool true) := by
  refine ACall.mono (R := fun x h' => x = .bool true ∧ h' = h) ?_ fun x h' hx => hx.1
  obtain ⟨z1, z2⟩ := readE_small text dbg
  refine acall_intro (n := 200) (rs := [.tmp 4]) Tryd.func6 rfl rfl rfl rfl (Nat.le_of_ble_eq_true rfl) ?_
  simp only [initSlots]
  -- region 0  law.go:165
  refine awp_rseq [0, 1] (by rfl) fun K hK => ?_
  simp (decide := true) only [aOps_nil, ev, absV, absS, putD, Slots.put, Slots.keep, if_true, if_false, true_and, ↓ap_assign, pop_assign, Nat.zero_add]
  repeat (with_reducible refine And.intro ?_ ?_; · first | trivial | omega | (intro hg; simp only [Bool.and_eq_true, Bool.or_eq_true, Bool.not_eq_true', Bool.and_eq_false_iff, Bool.or_eq_false_iff, Bool.not_eq_false', decide_eq_true_eq, decide_eq_false_iff_not, eqNil] at hg; omega) | (simp only [List.length_append, List.length_map, List.length_range, List.length_replicate, List.length_take, List.length_drop, List.length_cons, List.length_nil, List.length_set, List.length_reverse]; omega))
  apply hK; clear hK K
  refine awp_seq ?_
  -- region 1  law.go:166
  refine awp_rseq [0, 1, 22] (by rfl) fun K hK => ?_
  simp (decide := true) only [aOps_nil, ev, absV, absS, putD, Slots.put, Slots.get, Slots.keep, if_true, if_false, true_and, ↓ap_move, pop_move, ↓ap_len, pop_len, pLen_str Tryd.underlying9, ↓ap_binOp, pop_binOp, isNilC_int, cond_false, pBinX_int, pI_gtr]
  repeat (with_reducible refine And.intro ?_ ?_; · first | trivial | omega | (intro hg; simp only [Bool.and_eq_true, Bool.or_eq_true, Bool.not_eq_true', Bool.and_eq_false_iff, Bool.or_eq_false_iff, Bool.not_eq_false', decide_eq_true_eq, decide_eq_false_iff_not, eqNil] at hg; omega) | (simp only [List.length_append, List.length_map, List.length_range, List.length_replicate, List.length_take, List.length_drop, List.length_cons, List.length_nil, List.length_set, List.length_reverse]; omega))
  apply hK; clear hK K
  refine awp_cond (b := _) rfl (fun hb1 => ?_) (fun hb1 => ?_)
  · try simp only [decide_eq_true_eq] at hb1
    -- region 2  law.go:167
    refine awp_rseq [4] (by rfl) fun K hK => ?_
    refine aOps_callV (V := .bool true) (by rfl) (by rfl) (c_lives02 w₀ hm ht10 _) ?_
    simp (decide := true) only [aOps_nil, ev, putD, Slots.put, Slots.get, Slots.keep, if_true, if_false, true_and, ↓ap_assign, pop_assign]
    repeat (with_reducible refine And.intro ?_ ?_; · first | trivial | omega | (intro hg; simp only [Bool.and_eq_true, Bool.or_eq_true, Bool.not_eq_true', Bool.and_eq_false_iff, Bool.or_eq_false_iff, Bool.not_eq_false', decide_eq_true_eq, decide_eq_false_iff_not, eqNil] at hg; omega) | (simp only [List.length_append, List.length_map, List.length_range, List.length_replicate, List.length_take, List.length_drop, List.length_cons, List.length_nil, List.length_set, List.length_reverse]; omega))
    apply hK; clear hK K
    refine awp_ret ?_
    try simp only [thenA_ret]
    refine retA_ret h (by repeat (first | exact Sub.refl _ | assumption | refine Sub.trans_set ?_ (by assumption))) (resPre_tmp (resPre_nil)) ?_
    simp (decide := true) only [Slots.get, if_true, and_true, resOf_one]
    all_goals first | rfl | exact ⟨rfl, rfl⟩ | (simp (decide := true) only [if_true, if_false, *]; done) | (trace_state; fail)
  · try simp only [decide_eq_false_iff_not] at hb1
    have hl2 : text.length ≤ 2000 := by omega
    refine awp_skip ?_
    change Awp _ _ _ _ _ _ _
    -- region 3  law.go:169
    refine awp_rseq [0, 5, 6] (by rfl) fun K hK => ?_
    simp (decide := true) only [ev, putD, Slots.put, Slots.get, if_true, if_false, true_and, ↓ap_move, pop_move]
    repeat (with_reducible refine And.intro ?_ ?_; · first | trivial | omega | (intro hg; simp only [Bool.and_eq_true, Bool.or_eq_true, Bool.not_eq_true', Bool.and_eq_false_iff, Bool.or_eq_false_iff, Bool.not_eq_false', decide_eq_true_eq, decide_eq_false_iff_not, eqNil] at hg; omega) | (simp only [List.length_append, List.length_map, List.length_range, List.length_replicate, List.length_take, List.length_drop, List.length_cons, List.length_nil, List.length_set, List.length_reverse]; omega))
    refine aOps_call (by rfl) (by rfl) (c_Read w₀ hm _ text dbg hl) fun x3q2 h3q2 hx3q2 => ?_
    obtain ⟨cv, rfl, hc, hs3⟩ := hx3q2
    obtain ⟨f, hf⟩ : ∃ f, f = (readE text dbg).2 := ⟨_, rfl⟩
    rw [← hf]
    have hs_h3q2 : Sub h h3q2 := Sub.trans (by repeat (first | exact Sub.refl _ | assumption | refine Sub.trans_set ?_ (by assumption))) hs3
    have hr_h3q2 := hs_h3q2
    simp (decide := true) only [ev, putD, Slots.put, Slots.get, if_true, if_false, true_and, ↓ap_move, pop_move, ↓ap_extract, pop_extract, pExt_tuple, List.length_cons, List.length_nil, List.getD_cons_zero, List.getD_cons_succ, List.getD_cons_zero, List.getD_cons_succ, Nat.zero_add, Nat.reduceAdd, faultA]
    repeat (with_reducible refine And.intro ?_ ?_; · first | trivial | omega | (intro hg; simp only [Bool.and_eq_true, Bool.or_eq_true, Bool.not_eq_true', Bool.and_eq_false_iff, Bool.or_eq_false_iff, Bool.not_eq_false', decide_eq_true_eq, decide_eq_false_iff_not, eqNil] at hg; omega) | (simp only [List.length_append, List.length_map, List.length_range, List.length_replicate, List.length_take, List.length_drop, List.length_cons, List.length_nil, List.length_set, List.length_reverse]; omega))
    refine aOps_alloc ze34 (cs := [.int .i64 0, .int .i64 0, .int .i64 0]) (by rfl) fun k3q6 hk3q6 => ?_
    have hn_3q6 : h3q2 k3q6 = none := by first | assumption | (simp only [AHeap.set_none] at hk3q6; simp only [hk3q6])
    have hf_3q6 : h k3q6 = none := Sub.none hs_h3q2 hn_3q6
    simp (decide := true) only [ev, putD, Slots.put, Slots.get, if_true, if_false, true_and, ↓ap_assign, pop_assign]
    repeat (with_reducible refine And.intro ?_ ?_; · first | trivial | omega | (intro hg; simp only [Bool.and_eq_true, Bool.or_eq_true, Bool.not_eq_true', Bool.and_eq_false_iff, Bool.or_eq_false_iff, Bool.not_eq_false', decide_eq_true_eq, decide_eq_false_iff_not, eqNil] at hg; omega) | (simp only [List.length_append, List.length_map, List.length_range, List.length_replicate, List.length_take, List.length_drop, List.length_cons, List.length_nil, List.length_set, List.length_reverse]; omega))
    refine aOps_store (by rfl) (by rfl) (by repeat (first | exact AHeap.set_same _ _ _ | assumption | refine (AHeap.set_ne _ _ (by first | assumption | exact Ne.symm (by assumption))).trans ?_)) sz34 (by rfl) (by rfl) (by first | exact Nat.le_refl _ | decide | (simp; done) | (simp; omega)) (Nat.zero_le _) (by rfl) ?_
    simp only [AHeap.set_set, AVal.cells]
    simp (decide := true) only [aOps_nil, ev, putD, Slots.get, Slots.keep, if_true, if_false, setAt, List.set_cons_zero, List.set_cons_succ, Nat.zero_add, Nat.reduceAdd]
    repeat (with_reducible refine And.intro ?_ ?_; · first | trivial | omega | (intro hg; simp only [Bool.and_eq_true, Bool.or_eq_true, Bool.not_eq_true', Bool.and_eq_false_iff, Bool.or_eq_false_iff, Bool.not_eq_false', decide_eq_true_eq, decide_eq_false_iff_not, eqNil] at hg; omega) | (simp only [List.length_append, List.length_map, List.length_range, List.length_replicate, List.length_take, List.length_drop, List.length_cons, List.length_nil, List.length_set, List.length_reverse]; omega))
    apply hK; clear hK K
    refine awp_seq ?_
    -- region 4  law.go:170
    refine awp_rseq [0, 5, 32] (by rfl) fun K hK => ?_
    simp (decide := true) only [aOps_nil, ev, absV, absS, putD, Slots.put, Slots.get, Slots.keep, if_true, if_false, true_and, ↓ap_loadL, apL_mk, pLoad_agg ag34 sz34, ↓ap_build, ↓pop_buildL, bld34_, evP, List.map_nil, ↓ap_binOp, pop_binOp, isNilC_tmp, cond_false, pBinX_agg, ne34, rd_any, cellsAt, List.getD_cons_zero, List.getD_cons_succ, Nat.zero_add, Nat.reduceAdd, lv_int, allLive, Bool.and_true]
    repeat (with_reducible refine And.intro ?_ ?_; · first | trivial | omega | (intro hg; simp only [Bool.and_eq_true, Bool.or_eq_true, Bool.not_eq_true', Bool.and_eq_false_iff, Bool.or_eq_false_iff, Bool.not_eq_false', decide_eq_true_eq, decide_eq_false_iff_not, eqNil] at hg; omega) | (simp only [List.length_append, List.length_map, List.length_range, List.length_replicate, List.length_take, List.length_drop, List.length_cons, List.length_nil, List.length_set, List.length_reverse]; omega))
    apply hK; clear hK K
    refine awp_cond (b := _) rfl (fun hb2 => ?_) (fun hb2 => ?_)
    · try simp only [decide_eq_false_iff_not, Bool.not_eq_true', Bool.and_eq_false_iff] at hb2
      -- region 5  law.go:171
      refine awp_rseq [4] (by rfl) fun K hK => ?_
      refine aOps_callV (V := .bool true) (by rfl) (by rfl) (c_lives02 w₀ hm ht10 _) ?_
      simp (decide := true) only [aOps_nil, ev, putD, Slots.put, Slots.get, Slots.keep, if_true, if_false, true_and, ↓ap_assign, pop_assign]
      repeat (with_reducible refine And.intro ?_ ?_; · first | trivial | omega | (intro hg; simp only [Bool.and_eq_true, Bool.or_eq_true, Bool.not_eq_true', Bool.and_eq_false_iff, Bool.or_eq_false_iff, Bool.not_eq_false', decide_eq_true_eq, decide_eq_false_iff_not, eqNil] at hg; omega) | (simp only [List.length_append, List.length_map, List.length_range, List.length_replicate, List.length_take, List.length_drop, List.length_cons, List.length_nil, List.length_set, List.length_reverse]; omega))
      apply hK; clear hK K
      refine awp_ret ?_
      try simp only [thenA_ret]
      refine retA_ret h (by repeat (first | exact Sub.refl _ | assumption | refine Sub.trans_set ?_ (by assumption))) (resPre_tmp (resPre_nil)) ?_
      simp (decide := true) only [Slots.get, if_true, and_true, resOf_one]
      all_goals first | rfl | exact ⟨rfl, rfl⟩ | (simp (decide := true) only [if_true, if_false, *]; done) | (trace_state; fail)
    · try simp only [decide_eq_true_eq, Bool.not_eq_false', Bool.and_eq_true] at hb2
      have hok : (readE text dbg).2 = okF := by
        rw [← hf]
        obtain ⟨e, l, c⟩ := f
        simp only at hb2
        simp only [okF, FaultC.mk.injEq]
        omega
      obtain ⟨nR, xR, ys, hys, hcs⟩ := readE_parts hok
      obtain ⟨cs, hcs0⟩ : ∃ cs, cs = (readE text dbg).1 := ⟨_, rfl⟩
      rw [← hcs0] at hc z1 z2 hcs
      have hcl : cs.length = ys.length := by rw [hcs, List.length_map]
      have hcd : ∀ i, i < ys.length → cs.getD i ⟨false, [], []⟩ = cardD ys i := fun i hi => by rw [hcs]; unfold cardD; simp [List.getD, hi]
      refine awp_skip ?_
      change Awp _ _ _ _ _ _ _
      -- region 6  law.go:173
      refine awp_rseq [5, 7] (by rfl) fun K hK => ?_
      simp (decide := true) only [ev, putD, Slots.put, Slots.get, if_true, if_false, true_and, ↓ap_move, pop_move]
      repeat (with_reducible refine And.intro ?_ ?_; · first | trivial | omega | (intro hg; simp only [Bool.and_eq_true, Bool.or_eq_true, Bool.not_eq_true', Bool.and_eq_false_iff, Bool.or_eq_false_iff, Bool.not_eq_false', decide_eq_true_eq, decide_eq_false_iff_not, eqNil] at hg; omega) | (simp only [List.length_append, List.length_map, List.length_range, List.length_replicate, List.length_take, List.length_drop, List.length_cons, List.length_nil, List.length_set, List.length_reverse]; omega))
      refine aOps_call (by rfl) (by rfl) (c_split w₀ hm _ text (by omega)) fun x6q1 h6q1 hx6q1 => ?_
      obtain ⟨ks, hks, rfl, hh6⟩ := hx6q1
      have hs6 : Sub (h3q2.set k3q6 ⟨[.int .i64 f.e, .int .i64 f.line, .int .i64 f.col], 0⟩) h6q1 := by rw [hh6]; exact Sub.set hks
      have ebs : h6q1 ks = some ⟨(splitNL text).map AVal.str, 0⟩ := by rw [hh6]; exact AHeap.set_same _ _ _
      have hs_h6q1 : Sub h h6q1 := Sub.trans (by repeat (first | exact Sub.refl _ | assumption | refine Sub.trans_set ?_ (by assumption))) hs6
      have hr_h6q1 : Sub h3q2 h6q1 := Sub.trans (by repeat (first | exact Sub.refl _ | assumption | refine Sub.trans_set ?_ (by assumption))) hs6
      have eb_3q6 := hs6 k3q6 _ (by repeat (first | exact AHeap.set_same _ _ _ | assumption | refine (AHeap.set_ne _ _ (by first | assumption | exact Ne.symm (by assumption))).trans ?_))
      simp (decide := true) only [aOps_nil, ev, putD, Slots.put, Slots.get, Slots.keep, if_true, if_false, true_and, ↓ap_assign, pop_assign]
      repeat (with_reducible refine And.intro ?_ ?_; · first | trivial | omega | (intro hg; simp only [Bool.and_eq_true, Bool.or_eq_true, Bool.not_eq_true', Bool.and_eq_false_iff, Bool.or_eq_false_iff, Bool.not_eq_false', decide_eq_true_eq, decide_eq_false_iff_not, eqNil] at hg; omega) | (simp only [List.length_append, List.length_map, List.length_range, List.length_replicate, List.length_take, List.length_drop, List.length_cons, List.length_nil, List.length_set, List.length_reverse]; omega))
      apply hK; clear hK K
      -- region 7  law.go:174
      refine awp_rseq [5, 7, 8] (by rfl) fun K hK => ?_
      simp (decide := true) only [ev, absV, absS, putD, Slots.put, Slots.get, if_false, true_and, ↓ap_build, ↓pop_buildL, bld32_, evP, List.map_nil]
      repeat (with_reducible refine And.intro ?_ ?_; · first | trivial | omega | (intro hg; simp only [Bool.and_eq_true, Bool.or_eq_true, Bool.not_eq_true', Bool.and_eq_false_iff, Bool.or_eq_false_iff, Bool.not_eq_false', decide_eq_true_eq, decide_eq_false_iff_not, eqNil] at hg; omega) | (simp only [List.length_append, List.length_map, List.length_range, List.length_replicate, List.length_take, List.length_drop, List.length_cons, List.length_nil, List.length_set, List.length_reverse]; omega))
      refine aOps_alloc ze32 (cs := [.int .i64 0, .int .i64 0]) (by rfl) fun k7q1 hk7q1 => ?_
      have hn_7q1 : h6q1 k7q1 = none := by first | assumption | (simp only [AHeap.set_none] at hk7q1; simp only [hk7q1])
      have hf_7q1 : h k7q1 = none := Sub.none hs_h6q1 hn_7q1
      have ne_7q1_3q6 : k7q1 ≠ k3q6 := AHeap.ne_some hn_7q1 eb_3q6
      refine aOps_store (by rfl) (by rfl) (by repeat (first | exact AHeap.set_same _ _ _ | assumption | refine (AHeap.set_ne _ _ (by first | assumption | exact Ne.symm (by assumption))).trans ?_)) sz32 (by rfl) (by rfl) (by first | exact Nat.le_refl _ | decide | (simp; done) | (simp; omega)) (Nat.zero_le _) (by rfl) ?_
      simp only [AHeap.set_set, AVal.cells]
      simp (decide := true) only [aOps_nil, ev, putD, Slots.put, Slots.get, Slots.keep, if_true, if_false, setAt, List.set_cons_zero, List.set_cons_succ, Nat.zero_add]
      repeat (with_reducible refine And.intro ?_ ?_; · first | trivial | omega | (intro hg; simp only [Bool.and_eq_true, Bool.or_eq_true, Bool.not_eq_true', Bool.and_eq_false_iff, Bool.or_eq_false_iff, Bool.not_eq_false', decide_eq_true_eq, decide_eq_false_iff_not, eqNil] at hg; omega) | (simp only [List.length_append, List.length_map, List.length_range, List.length_replicate, List.length_take, List.length_drop, List.length_cons, List.length_nil, List.length_set, List.length_reverse]; omega))
      apply hK; clear hK K
      refine awp_seq ?_
      -- region 8  law.go:175
      refine awp_rseq [5, 7, 8, 9] (by rfl) fun K hK => ?_
      simp (decide := true) only [aOps_nil, ev, absV, absS, putD, Slots.put, Slots.keep, if_true, if_false, true_and, ↓ap_assign, pop_assign]
      repeat (with_reducible refine And.intro ?_ ?_; · first | trivial | omega | (intro hg; simp only [Bool.and_eq_true, Bool.or_eq_true, Bool.not_eq_true', Bool.and_eq_false_iff, Bool.or_eq_false_iff, Bool.not_eq_false', decide_eq_true_eq, decide_eq_false_iff_not, eqNil] at hg; omega) | (simp only [List.length_append, List.length_map, List.length_range, List.length_replicate, List.length_take, List.length_drop, List.length_cons, List.length_nil, List.length_set, List.length_reverse]; omega))
      apply hK; clear hK K
      refine awp_block ?_
      refine awp_loopG [5, 7, 8, 9] (fun i : Nat => [(5, cv), (7, .slice (.own ks) 0 (splitNL text).length (.exact (splitNL text).length)), (8, .ptr (.own k7q1) 0), (9, .int .i64 i)]) (fun i : Nat => h6q1.set k7q1 ⟨[.int .i64 (bef ys i 0).1, .int .i64 (bef ys i 0).2], 0⟩) (fun i : Nat => i ≤ ys.length) (fun i : Nat => ys.length - i) 0 (by rfl) (Sub.refl _) (Nat.zero_le _) ?_
      intro i hi
      have hc6 := (hc.mono (Sub.set hn_3q6)).mono hs6
      have hlv := hc.live
      have hln := (hc6.mono (Sub.set (b := ⟨[.int .i64 (bef ys i 0).1, .int .i64 (bef ys i 0).2], 0⟩) hk7q1)).len
      rw [hcl] at hln
      refine awp_seq ?_
      -- region 9  law.go:175
      refine awp_rseq [5, 7, 8, 9, 40] (by rfl) fun K hK => ?_
      simp (decide := true) only [aOps_nil, ev, putD, Slots.put, Slots.get, Slots.keep, if_true, if_false, true_and, ↓ap_move, pop_move, ↓ap_len, pop_len, ↓ap_binOp, pop_binOp, isNilC_tmp, cond_false, pBinX_int, pI_lss, hln]
      repeat (with_reducible refine And.intro ?_ ?_; · first | trivial | omega | (intro hg; simp only [Bool.and_eq_true, Bool.or_eq_true, Bool.not_eq_true', Bool.and_eq_false_iff, Bool.or_eq_false_iff, Bool.not_eq_false', decide_eq_true_eq, decide_eq_false_iff_not, eqNil] at hg; omega) | (simp only [List.length_append, List.length_map, List.length_range, List.length_replicate, List.length_take, List.length_drop, List.length_cons, List.length_nil, List.length_set, List.length_reverse]; omega))
      apply hK; clear hK K
      refine awp_cond (b := _) rfl (fun hb3 => ?_) (fun hb3 => ?_)
      · try simp only [decide_eq_true_eq] at hb3
        have hi' : i < ys.length := by omega
        obtain ⟨l, o, cp, rfl⟩ := hc6.open (by omega)
        rw [hcl] at hc6 hc hln ⊢
        obtain ⟨mv, e3, e0, e1, e2⟩ := IsCards_nth hc6 (show i < cs.length by omega)
        obtain ⟨c, hcc⟩ : ∃ c, c = cardD ys i := ⟨_, rfl⟩
        rw [hcd i hi', ← hcc] at e0 e1 e3
        have rd3 : ∀ h', Sub h6q1 h' → rd w₀ h' l (o + i * 3) = .bool c.left ∧ rd w₀ h' l (o + i * 3 + 1) = .str c.text ∧ rd w₀ h' l (o + i * 3 + 2) = mv := fun h' hs => ⟨rd_sub e0 rfl hs, rd_sub e1 rfl hs, rd_sub e2 e3.live hs⟩
        have hcm : c ∈ cs := by rw [hcc, ← hcd i hi', List.getD, List.getElem?_eq_getElem (by omega)]; exact List.getElem_mem (by omega)
        obtain ⟨c1, c2⟩ := z2 c hcm
        have hmvl := e3.live
        refine awp_skip ?_
        change Awp _ _ _ _ _ _ _
        refine awp_seq ?_
        refine awp_block ?_
        refine awp_seq ?_
        -- region 11  law.go:176
        refine awp_rseq [5, 7, 8, 9, 10] (by rfl) fun K hK => ?_
        simp (decide := true) only [aOps_nil, ev, absV, absS, putD, Slots.put, Slots.keep, if_true, if_false, true_and, ↓ap_assign, pop_assign]
        repeat (with_reducible refine And.intro ?_ ?_; · first | trivial | omega | (intro hg; simp only [Bool.and_eq_true, Bool.or_eq_true, Bool.not_eq_true', Bool.and_eq_false_iff, Bool.or_eq_false_iff, Bool.not_eq_false', decide_eq_true_eq, decide_eq_false_iff_not, eqNil] at hg; omega) | (simp only [List.length_append, List.length_map, List.length_range, List.length_replicate, List.length_take, List.length_drop, List.length_cons, List.length_nil, List.length_set, List.length_reverse]; omega))
        apply hK; clear hK K
        refine awp_block ?_
        refine awp_loopG [5, 7, 8, 9, 10] (fun k : Nat => [(5, .slice l o ys.length cp), (7, .slice (.own ks) 0 (splitNL text).length (.exact (splitNL text).length)), (8, .ptr (.own k7q1) 0), (9, .int .i64 i), (10, .int .i64 k)]) (fun k : Nat => h6q1.set k7q1 ⟨[.int .i64 (bef ys i k).1, .int .i64 (bef ys i k).2], 0⟩) (fun k : Nat => k ≤ c.text.length) (fun k : Nat => c.text.length - k) 0 (by rfl) (Sub.refl _) (Nat.zero_le _) ?_
        intro k hk
        obtain ⟨a0, a1, a2⟩ := rd3 (h6q1.set k7q1 ⟨[.int .i64 (bef ys i k).1, .int .i64 (bef ys i k).2], 0⟩) (Sub.set hn_7q1)
        refine awp_seq ?_
        -- region 12  law.go:176
        refine awp_rseq [5, 7, 8, 9, 10, 50] (by rfl) fun K hK => ?_
        simp (decide := true) only [aOps_nil, ev, putD, Slots.put, Slots.get, Slots.keep, if_true, if_false, true_and, ↓ap_move, pop_move, ↓ap_indexAddrL, apL_mk, pIndexAddr_slice Tryd.underlying30 sz39, ↓ap_fieldAddr, pop_fieldAddr, fa39_1, ↓ap_loadL, pLoad_one ag9, ↓ap_len, pop_len, pLen_str Tryd.underlying9, ↓ap_binOp, pop_binOp, isNilC_tmp, cond_false, pBinX_int, pI_lss, lv_str, a1, Int.toNat_natCast]
        repeat (with_reducible refine And.intro ?_ ?_; · first | trivial | omega | (intro hg; simp only [Bool.and_eq_true, Bool.or_eq_true, Bool.not_eq_true', Bool.and_eq_false_iff, Bool.or_eq_false_iff, Bool.not_eq_false', decide_eq_true_eq, decide_eq_false_iff_not, eqNil] at hg; omega) | (simp only [List.length_append, List.length_map, List.length_range, List.length_replicate, List.length_take, List.length_drop, List.length_cons, List.length_nil, List.length_set, List.length_reverse]; omega))
        apply hK; clear hK K
        refine awp_cond (b := _) rfl (fun hb4 => ?_) (fun hb4 => ?_)
        · try simp only [decide_eq_true_eq] at hb4
          have hk' : k < c.text.length := by omega
          have hsl := splitNL_len text
          obtain ⟨p, p1, p2, p3, p4, p5, p6, p7, p8, p9⟩ := mark_step hys hi' (by rw [← hcc]; exact hk')
          rw [← hcc] at p2 p9
          refine awp_skip ?_
          change Awp _ _ _ _ _ _ _
          refine awp_seq ?_
          refine awp_block ?_
          -- region 14  law.go:177
          refine awp_rseq [5, 7, 8, 9, 10, 11, 12] (by rfl) fun K hK => ?_
          simp (decide := true) only [ev, putD, Slots.put, Slots.get, if_true, if_false, true_and, ↓ap_move, pop_move, ↓ap_indexAddrL, apL_mk, pIndexAddr_slice Tryd.underlying30 sz39, ↓ap_loadL, pLoad_agg ag39 sz39, cellsAt, lv_bool, lv_str, allLive, Bool.and_true, a0, a1, a2, Int.toNat_natCast, hmvl]
          repeat (with_reducible refine And.intro ?_ ?_; · first | trivial | omega | (intro hg; simp only [Bool.and_eq_true, Bool.or_eq_true, Bool.not_eq_true', Bool.and_eq_false_iff, Bool.or_eq_false_iff, Bool.not_eq_false', decide_eq_true_eq, decide_eq_false_iff_not, eqNil] at hg; omega) | (simp only [List.length_append, List.length_map, List.length_range, List.length_replicate, List.length_take, List.length_drop, List.length_cons, List.length_nil, List.length_set, List.length_reverse]; omega))
          refine aOps_callV (V := .tuple [.agg [.int .i64 p.1, .int .i64 p.2], .int .i64 0]) (by rfl) (by rfl) ((by have q := c_At w₀ (h6q1.set k7q1 ⟨[.int .i64 (bef ys i k).1, .int .i64 (bef ys i k).2], 0⟩) c mv k (e3.mono (Sub.set hn_7q1)) (by omega) (by omega) (by omega); rw [p2] at q; exact q)) ?_
          simp (decide := true) only [ev, putD, Slots.put, Slots.get, if_true, if_false, true_and, ↓ap_move, pop_move, ↓ap_extract, pop_extract, pExt_tuple, List.length_cons, List.length_nil, List.getD_cons_zero, List.getD_cons_succ, List.getD_cons_zero, List.getD_cons_succ, Nat.zero_add, Nat.reduceAdd]
          repeat (with_reducible refine And.intro ?_ ?_; · first | trivial | omega | (intro hg; simp only [Bool.and_eq_true, Bool.or_eq_true, Bool.not_eq_true', Bool.and_eq_false_iff, Bool.or_eq_false_iff, Bool.not_eq_false', decide_eq_true_eq, decide_eq_false_iff_not, eqNil] at hg; omega) | (simp only [List.length_append, List.length_map, List.length_range, List.length_replicate, List.length_take, List.length_drop, List.length_cons, List.length_nil, List.length_set, List.length_reverse]; omega))
          refine aOps_alloc ze32 (cs := [.int .i64 0, .int .i64 0]) (by rfl) fun k14q9 hk14q9 => ?_
          have ne_14q9_7q1 : k14q9 ≠ k7q1 := by simp only [AHeap.set_none] at hk14q9; simp only [hk14q9, ne_eq, not_false_eq_true]
          have hn_14q9 : h6q1 k14q9 = none := by first | assumption | (simp only [AHeap.set_none] at hk14q9; simp only [hk14q9])
          have hf_14q9 : h k14q9 = none := Sub.none hs_h6q1 hn_14q9
          have ne_14q9_3q6 : k14q9 ≠ k3q6 := AHeap.ne_some hn_14q9 eb_3q6
          refine aOps_store (by rfl) (by rfl) (by repeat (first | exact AHeap.set_same _ _ _ | assumption | refine (AHeap.set_ne _ _ (by first | assumption | exact Ne.symm (by assumption))).trans ?_)) sz32 (by rfl) (by rfl) (by first | exact Nat.le_refl _ | decide | (simp; done) | (simp; omega)) (Nat.zero_le _) (by rfl) ?_
          simp only [AHeap.set_set, AVal.cells]
          simp (decide := true) only [aOps_nil, ev, putD, Slots.put, Slots.get, Slots.keep, if_true, if_false, true_and, ↓ap_assign, pop_assign, setAt, List.set_cons_zero, List.set_cons_succ, Nat.zero_add]
          repeat (with_reducible refine And.intro ?_ ?_; · first | trivial | omega | (intro hg; simp only [Bool.and_eq_true, Bool.or_eq_true, Bool.not_eq_true', Bool.and_eq_false_iff, Bool.or_eq_false_iff, Bool.not_eq_false', decide_eq_true_eq, decide_eq_false_iff_not, eqNil] at hg; omega) | (simp only [List.length_append, List.length_map, List.length_range, List.length_replicate, List.length_take, List.length_drop, List.length_cons, List.length_nil, List.length_set, List.length_reverse]; omega))
          apply hK; clear hK K
          refine awp_seq ?_
          -- region 15  law.go:178
          refine awp_rseq [5, 7, 8, 9, 10, 11, 106] (by rfl) fun K hK => ?_
          simp (decide := true) only [aOps_nil, ev, absV, absS, putD, Slots.put, Slots.get, Slots.keep, if_true, if_false, true_and, ↓ap_move, pop_move, ↓ap_binOp, pop_binOp, isNilC_int, cond_false, pBinX_int, pI_neq, ↓ag_fieldAddr, pop_fieldAddr, agP, agQ_some, nthDst, gKnown_bool, gKnown_cond, guardB_cond, guardB_bool_true, guardB_bool_false, cv_cv, implies_true, decide_true, Bool.not_false, Bool.not_true, condV_true, Bool.false_or, fa32_0, ↓ag_loadL, agQL_some, agL_mk, agL_ld2, agL_ld3, pLoad_one ag3, ↓ag_binOp, cv_binl, cv_binr, cp_binl, cp_binr, pI_lss, ↓ap_pick, pop_pick, pPick_bool, pickV_cond_r, cp_nest1, pickV_and, pickV_or, ↓ag_move, ↓ag_len, pop_len, pLen_slice Tryd.underlying40, cv_len, cp_len, isNilC_tmp, pI_gtr, fa32_1, pI_eql, pI_leq, ↓ag_pick, cv_pick, cp_pick, rd_ne', ne_eq, not_false_eq_true, ne_14q9_7q1.symm, rd_any, List.getD_cons_zero, List.getD_cons_succ, Nat.zero_add, lv_int]
          repeat (with_reducible refine And.intro ?_ ?_; · first | trivial | omega | (intro hg; simp only [Bool.and_eq_true, Bool.or_eq_true, Bool.not_eq_true', Bool.and_eq_false_iff, Bool.or_eq_false_iff, Bool.not_eq_false', decide_eq_true_eq, decide_eq_false_iff_not, eqNil] at hg; omega) | (simp only [List.length_append, List.length_map, List.length_range, List.length_replicate, List.length_take, List.length_drop, List.length_cons, List.length_nil, List.length_set, List.length_reverse]; omega))
          apply hK; clear hK K
          refine awp_cond (b := _) rfl (fun hb5 => ?_) (fun hb5 => ?_)
          · try simp only [decide_eq_true_eq, Bool.and_eq_true, Bool.or_eq_true] at hb5
            exfalso
            omega
          · try simp only [decide_eq_false_iff_not, Bool.and_eq_false_iff, Bool.or_eq_false_iff] at hb5
            refine awp_skip ?_
            change Awp _ _ _ _ _ _ _
            -- region 17  law.go:181
            refine awp_rseq [5, 7, 8, 9, 10, 11, 13] (by rfl) fun K hK => ?_
            simp (decide := true) only [aOps_nil, ev, absV, absS, putD, Slots.put, Slots.keep, if_true, if_false, true_and, ↓ap_assign, pop_assign]
            repeat (with_reducible refine And.intro ?_ ?_; · first | trivial | omega | (intro hg; simp only [Bool.and_eq_true, Bool.or_eq_true, Bool.not_eq_true', Bool.and_eq_false_iff, Bool.or_eq_false_iff, Bool.not_eq_false', decide_eq_true_eq, decide_eq_false_iff_not, eqNil] at hg; omega) | (simp only [List.length_append, List.length_map, List.length_range, List.length_replicate, List.length_take, List.length_drop, List.length_cons, List.length_nil, List.length_set, List.length_reverse]; omega))
            apply hK; clear hK K
            refine awp_seq ?_
            obtain ⟨ln, hlnn⟩ : ∃ ln, ln = (splitNL text).getD (p.1 - 1).toNat [] := ⟨_, rfl⟩
            have rls := fun o => rd_own w₀ (h := (h6q1.set k7q1 ⟨[.int .i64 (bef ys i k).1, .int .i64 (bef ys i k).2], 0⟩).set k14q9 ⟨[.int .i64 p.1, .int .i64 p.2], 0⟩) (k := ks) ((AHeap.set_ne _ _ (AHeap.ne_some hn_14q9 ebs).symm).trans ((AHeap.set_ne _ _ (AHeap.ne_some hn_7q1 ebs).symm).trans ebs)) o
            have hw1 : IntKind.i64.wrap (p.1 - 1) = p.1 - 1 := by simp (disch := omega) only [wrap_i64]
            have hw2 : IntKind.i64.wrap (p.2 - 1) = p.2 - 1 := by simp (disch := omega) only [wrap_i64]
            have hst : ((splitNL text).map AVal.str).getD (p.1 - 1).toNat .dead = .str ln := by rw [hlnn]; exact strs_at (by omega)
            have hby : c.text.getD k 0 = if (p.2 - 1).toNat < ln.length then ln.getD (p.2 - 1).toNat 0 else 32 := by
              rw [← p9]
              unfold byteAt
              rw [show p.1.toNat - 1 = (p.1 - 1).toNat by omega, show p.2.toNat - 1 = (p.2 - 1).toNat by omega, ← hlnn]
              exact padE_at (by omega)
            have hlnl : ln.length ≤ text.length := by
              rw [hlnn]
              refine splitNL_mem text _ ?_
              rw [List.getD, List.getElem?_eq_getElem (by omega)]
              exact List.getElem_mem (by omega)
            -- region 18  law.go:182
            refine awp_dseq_all [5, 7, 8, 9, 10, 11, 13, 116] mixed (by kernel_rfl) (by rfl) (by rfl) fun K hK => ?_
            simp (decide := true) only [ev, absV, absS, putD, Slots.put, Slots.get, if_true, if_false, true_and, ↓ap_fieldAddr, pop_fieldAddr, fa32_1, ↓ap_loadL, apL_mk, pLoad_one ag3, ↓ap_move, pop_move, fa32_0, ↓ap_binOp, pop_binOp, isNilC_int, cond_false, pBinX_int, pI_sub, rd_any, List.getD_cons_zero, List.getD_cons_succ, Nat.zero_add, lv_int, Nat.zero_add, hw1]
            try simp (disch := omega) only [wrap_i64, wrap_u8]
            try simp (decide := true) only [aOps_nil, ev, putD, Slots.put, Slots.get, Slots.keep, if_true, if_false, true_and, ↓ap_indexAddrL, apL_mk, pIndexAddr_slice Tryd.underlying40 sz9, ↓ap_loadL, pLoad_one ag9, ↓ap_len, pop_len, pLen_str Tryd.underlying9, ↓ap_binOp, pop_binOp, isNilC_tmp, cond_false, pBinX_int, pI_leq, Nat.zero_add, lv_str, Nat.zero_add, Nat.mul_one, rls, hst]
            repeat (with_reducible refine And.intro ?_ ?_; · first | trivial | omega | (intro hg; simp only [Bool.and_eq_true, Bool.or_eq_true, Bool.not_eq_true', Bool.and_eq_false_iff, Bool.or_eq_false_iff, Bool.not_eq_false', decide_eq_true_eq, decide_eq_false_iff_not, eqNil] at hg; omega) | (simp only [List.length_append, List.length_map, List.length_range, List.length_replicate, List.length_take, List.length_drop, List.length_cons, List.length_nil, List.length_set, List.length_reverse]; omega))
            apply hK; clear hK K
            refine awp_joinT [5, 7, 8, 9, 10, 11, 13] (fun z : Unit => [(5, .slice l o ys.length cp), (7, .slice (.own ks) 0 (splitNL text).length (.exact (splitNL text).length)), (8, .ptr (.own k7q1) 0), (9, .int .i64 i), (10, .int .i64 k), (11, .ptr (.own k14q9) 0), (13, .int .u8 (c.text.getD k 0).toNat)]) (fun z : Unit => (h6q1.set k7q1 ⟨[.int .i64 (bef ys i k).1, .int .i64 (bef ys i k).2], 0⟩).set k14q9 ⟨[.int .i64 p.1, .int .i64 p.2], 0⟩) (fun z : Unit => True) ?_ ?_
            · refine awp_cond (b := _) rfl (fun hb6 => ?_) (fun hb6 => ?_)
              · try simp only [decide_eq_true_eq] at hb6
                -- region 19  law.go:183
                refine awp_draw_all mixed (by kernel_rfl) (by rfl) (by rfl) ?_
                simp (decide := true) only [ev, absV, absS, putD, Slots.put, Slots.get, if_true, if_false, true_and, and_true, ↓ap_move, pop_move, ↓ap_fieldAddr, pop_fieldAddr, fa32_0, ↓ap_loadL, apL_mk, pLoad_one ag3, ↓ap_binOp, pop_binOp, isNilC_int, cond_false, pBinX_int, pI_sub, rd_any, List.getD_cons_zero, Nat.zero_add, lv_int, Nat.zero_add, hw1]
                try simp (disch := omega) only [wrap_i64, wrap_u8]
                try simp (decide := true) only [ev, absV, absS, putD, Slots.put, Slots.get, if_true, if_false, true_and, ↓ap_indexAddrL, apL_mk, pIndexAddr_slice Tryd.underlying40 sz9, ↓ap_loadL, pLoad_one ag9, ↓ap_fieldAddr, pop_fieldAddr, fa32_1, pLoad_one ag3, ↓ap_binOp, pop_binOp, isNilC_int, cond_false, pBinX_int, pI_sub, rd_any, List.getD_cons_zero, List.getD_cons_succ, Nat.zero_add, lv_int, lv_str, Nat.zero_add, Nat.mul_one, rls, hst, hw2]
                try simp (disch := omega) only [wrap_i64, wrap_u8]
                try simp (decide := true) only [aOps_nil, ev, putD, Slots.put, Slots.get, if_true, if_false, true_and, ↓ap_index, pop_index, pIndex_str Tryd.underlying9, ↓ap_assign, pop_assign]
                repeat (with_reducible refine And.intro ?_ ?_; · first | trivial | omega | (intro hg; simp only [Bool.and_eq_true, Bool.or_eq_true, Bool.not_eq_true', Bool.and_eq_false_iff, Bool.or_eq_false_iff, Bool.not_eq_false', decide_eq_true_eq, decide_eq_false_iff_not, eqNil] at hg; omega) | (simp only [List.length_append, List.length_map, List.length_range, List.length_replicate, List.length_take, List.length_drop, List.length_cons, List.length_nil, List.length_set, List.length_reverse]; omega))
                try simp only [thenA_normal]
                first
                | refine ⟨(), ?_, Sub.refl _, trivial⟩
                | refine ⟨(), ?_, Sub.refl _⟩
                rw [hby]
                first
                | (rw [if_pos (by omega)]; rfl)
                | (rw [if_neg (by omega)]; rfl)
              · try simp only [decide_eq_false_iff_not] at hb6
                refine awp_skip ?_
                try simp only [thenA_normal]
                first
                | refine ⟨(), ?_, Sub.refl _, trivial⟩
                | refine ⟨(), ?_, Sub.refl _⟩
                rw [hby]
                first
                | (rw [if_pos (by omega)]; rfl)
                | (rw [if_neg (by omega)]; rfl)
            · intro _ _
              obtain ⟨b0, b1, b2⟩ := rd3 ((h6q1.set k7q1 ⟨[.int .i64 (bef ys i k).1, .int .i64 (bef ys i k).2], 0⟩).set k14q9 ⟨[.int .i64 p.1, .int .i64 p.2], 0⟩) (by repeat (first | exact Sub.refl _ | assumption | refine Sub.set_both ?_ _ _ | refine Sub.trans_set ?_ (by repeat (first | assumption | refine (AHeap.set_ne _ _ (by first | assumption | exact Ne.symm (by assumption))).trans ?_))))
              refine awp_seq ?_
              -- region 20  law.go:185
              refine awp_rseq [5, 7, 8, 9, 10, 11, 135] (by rfl) fun K hK => ?_
              simp (decide := true) only [aOps_nil, ev, putD, Slots.put, Slots.get, Slots.keep, if_true, if_false, true_and, ↓ap_move, pop_move, ↓ap_indexAddrL, apL_mk, pIndexAddr_slice Tryd.underlying30 sz39, ↓ap_fieldAddr, pop_fieldAddr, fa39_1, ↓ap_loadL, pLoad_one ag9, ↓ap_index, pop_index, pIndex_str Tryd.underlying9, ↓ap_binOp, pop_binOp, isNilC_tmp, cond_false, pBinX_int, pI_neq, lv_str, b1, Int.toNat_natCast]
              repeat (with_reducible refine And.intro ?_ ?_; · first | trivial | omega | (intro hg; simp only [Bool.and_eq_true, Bool.or_eq_true, Bool.not_eq_true', Bool.and_eq_false_iff, Bool.or_eq_false_iff, Bool.not_eq_false', decide_eq_true_eq, decide_eq_false_iff_not, eqNil] at hg; omega) | (simp only [List.length_append, List.length_map, List.length_range, List.length_replicate, List.length_take, List.length_drop, List.length_cons, List.length_nil, List.length_set, List.length_reverse]; omega))
              apply hK; clear hK K
              refine awp_cond (b := _) rfl (fun hb7 => ?_) (fun hb7 => ?_)
              · simp at hb7
              · try simp only [decide_eq_true_eq, Bool.not_eq_false'] at hb7
                refine awp_skip ?_
                change Awp _ _ _ _ _ _ _
                -- region 22  law.go:188
                refine awp_r [5, 7, 8, 9, 10] (by rfl) ?_
                simp (decide := true) only [ev, putD, Slots.put, Slots.get, if_true, if_false, true_and, ↓ap_loadL, apL_mk, pLoad_agg ag32 sz32, rd_any, cellsAt, List.getD_cons_zero, List.getD_cons_succ, Nat.zero_add, lv_int, allLive, Bool.and_true]
                repeat (with_reducible refine And.intro ?_ ?_; · first | trivial | omega | (intro hg; simp only [Bool.and_eq_true, Bool.or_eq_true, Bool.not_eq_true', Bool.and_eq_false_iff, Bool.or_eq_false_iff, Bool.not_eq_false', decide_eq_true_eq, decide_eq_false_iff_not, eqNil] at hg; omega) | (simp only [List.length_append, List.length_map, List.length_range, List.length_replicate, List.length_take, List.length_drop, List.length_cons, List.length_nil, List.length_set, List.length_reverse]; omega))
                refine aOps_store (by rfl) (by rfl) (by repeat (first | exact AHeap.set_same _ _ _ | assumption | refine (AHeap.set_ne _ _ (by first | assumption | exact Ne.symm (by assumption))).trans ?_)) sz32 (by rfl) (by rfl) (by first | exact Nat.le_refl _ | decide | (simp; done) | (simp; omega)) (Nat.zero_le _) (by rfl) ?_
                simp only [AVal.cells]
                simp (decide := true) only [aOps_nil, ev, putD, Slots.get, Slots.keep, if_true, if_false, setAt, List.set_cons_zero, List.set_cons_succ, Nat.zero_add]
                repeat (with_reducible refine And.intro ?_ ?_; · first | trivial | omega | (intro hg; simp only [Bool.and_eq_true, Bool.or_eq_true, Bool.not_eq_true', Bool.and_eq_false_iff, Bool.or_eq_false_iff, Bool.not_eq_false', decide_eq_true_eq, decide_eq_false_iff_not, eqNil] at hg; omega) | (simp only [List.length_append, List.length_map, List.length_range, List.length_replicate, List.length_take, List.length_drop, List.length_cons, List.length_nil, List.length_set, List.length_reverse]; omega))
                change Awp _ _ _ _ _ _ _
                -- region 13  law.go:176
                refine awp_r [5, 7, 8, 9, 10] (by rfl) ?_
                simp (decide := true) only [aOps_nil, ev, absV, absS, putD, Slots.put, Slots.get, Slots.keep, if_true, if_false, true_and, ↓ap_move, pop_move, ↓ap_binOp, pop_binOp, isNilC_int, cond_false, pBinX_int, pI_add, ↓ap_assign, pop_assign]
                try simp (disch := omega) only [wrap_i64]
                repeat (with_reducible refine And.intro ?_ ?_; · first | trivial | omega | (intro hg; simp only [Bool.and_eq_true, Bool.or_eq_true, Bool.not_eq_true', Bool.and_eq_false_iff, Bool.or_eq_false_iff, Bool.not_eq_false', decide_eq_true_eq, decide_eq_false_iff_not, eqNil] at hg; omega) | (simp only [List.length_append, List.length_map, List.length_range, List.length_replicate, List.length_take, List.length_drop, List.length_cons, List.length_nil, List.length_set, List.length_reverse]; omega))
                try simp only [thenA_normal]
                refine ⟨k + 1, rfl, ?_, by omega, by omega⟩
                rw [p1, AHeap.set_comm _ _ _ (by assumption : k14q9 ≠ k7q1).symm, AHeap.set_set]
                exact Sub.set (by rw [AHeap.set_ne _ _ (by assumption : k14q9 ≠ k7q1)]; exact hn_14q9)
        · try simp only [decide_eq_false_iff_not] at hb4
          have hke : k = c.text.length := by omega
          obtain ⟨m1, m2⟩ := mark_end hys hi'
          rw [← hcc, ← hke] at m1 m2
          have hbb : 8 ≤ (bef ys i k).2 ∧ (bef ys i k).2 ≤ 72 := by
            obtain ⟨_, _, hpos⟩ := nth_ok hys hi'
            rw [← hcc] at hpos
            obtain ⟨p, p1, p2, p3, p4, p5, p6, _⟩ := mark_step hys hi' (k := k - 1) (by rw [← hcc]; omega)
            rw [show k - 1 + 1 = k by omega] at p1
            rw [p1]
            exact ⟨p5, p6⟩
          have hwb : IntKind.i64.wrap ((bef ys i k).2 + 1) = (bef ys i k).2 + 1 := by simp (disch := omega) only [wrap_i64]
          refine awp_exit ?_
          change Awp _ _ _ _ _ _ _
          -- region 23  law.go:190
          refine awp_dseq_F 15 [13] [5, 7, 8, 9, 14, 15] mixed (by kernel_rfl) (by rfl) fun K hK => ?_
          simp only [List.take_succ_cons, List.take_zero, List.drop_succ_cons, List.drop_zero]
          simp (decide := true) only [ev, putD, Slots.put, Slots.get, if_true, if_false, true_and, ↓fp_move, pop_move, ↓fp_indexAddr, pop_load, pIndexAddr_slice Tryd.underlying30 sz39, pop_indexAddr, ↓fp_load, pLoad_agg ag39 sz39, ↓fp_fieldAddr, pop_fieldAddr, fa39_1, pLoad_one ag9, ↓fp_len, pop_len, pLen_str Tryd.underlying9, cellsAt, lv_bool, lv_str, allLive, Bool.and_true, a0, a1, a2, Int.toNat_natCast, hmvl]
          repeat (with_reducible refine And.intro ?_ ?_; · first | trivial | omega | (intro hg; simp only [Bool.and_eq_true, Bool.or_eq_true, Bool.not_eq_true', Bool.and_eq_false_iff, Bool.or_eq_false_iff, Bool.not_eq_false', decide_eq_true_eq, decide_eq_false_iff_not, eqNil] at hg; omega) | (simp only [List.length_append, List.length_map, List.length_range, List.length_replicate, List.length_take, List.length_drop, List.length_cons, List.length_nil, List.length_set, List.length_reverse]; omega))
          refine fOps_callV (V := .tuple [.agg [.int .i64 (bef ys i k).1, .int .i64 ((bef ys i k).2 + 1)], .int .i64 0]) (by rfl) (by rfl) (by first | trivial | (simp (decide := true) only [AVal.okIn, okInL, and_true, true_and, faultA, markC, posA, cardA, rowA, AHeap.set_same, Option.isSome_some]; done) | (simp [AVal.okIn, okInL, AHeap.set]; done)) (fun g hg => (by have q := c_At w₀ g c mv k (e3.mono (Sub.trans (by repeat (first | exact Sub.refl _ | exact Sub.set hn_7q1 | refine Sub.trans_set ?_ (by assumption))) hg)) (by omega) (by omega) (by omega); rw [m1] at q; rw [← hke]; exact q)) ?_
          simp (decide := true) only [ev, putD, Slots.put, Slots.get, if_true, if_false, true_and, ↓fp_move, pop_move, ↓fp_extract, pop_extract, pExt_tuple, List.length_cons, List.length_nil, List.getD_cons_zero, List.getD_cons_succ, List.getD_cons_zero, List.getD_cons_succ, Nat.zero_add, Nat.reduceAdd]
          repeat (with_reducible refine And.intro ?_ ?_; · first | trivial | omega | (intro hg; simp only [Bool.and_eq_true, Bool.or_eq_true, Bool.not_eq_true', Bool.and_eq_false_iff, Bool.or_eq_false_iff, Bool.not_eq_false', decide_eq_true_eq, decide_eq_false_iff_not, eqNil] at hg; omega) | (simp only [List.length_append, List.length_map, List.length_range, List.length_replicate, List.length_take, List.length_drop, List.length_cons, List.length_nil, List.length_set, List.length_reverse]; omega))
          refine fOps_lay (by rfl) ?_
          refine aOps_alloc ze32 (cs := [.int .i64 0, .int .i64 0]) (by rfl) fun k23q14 hk23q14 => ?_
          have ne_23q14_7q1 : k23q14 ≠ k7q1 := by simp only [AHeap.set_none] at hk23q14; simp only [hk23q14, ne_eq, not_false_eq_true]
          have hn_23q14 : h6q1 k23q14 = none := by first | assumption | (simp only [AHeap.set_none] at hk23q14; simp only [hk23q14])
          have hf_23q14 : h k23q14 = none := Sub.none hs_h6q1 hn_23q14
          have ne_23q14_3q6 : k23q14 ≠ k3q6 := AHeap.ne_some hn_23q14 eb_3q6
          rw [aOps_nil]
          repeat (with_reducible refine And.intro ?_ ?_; · first | trivial | omega | (intro hg; simp only [Bool.and_eq_true, Bool.or_eq_true, Bool.not_eq_true', Bool.and_eq_false_iff, Bool.or_eq_false_iff, Bool.not_eq_false', decide_eq_true_eq, decide_eq_false_iff_not, eqNil] at hg; omega) | (simp only [List.length_append, List.length_map, List.length_range, List.length_replicate, List.length_take, List.length_drop, List.length_cons, List.length_nil, List.length_set, List.length_reverse]; omega))
          try simp only [fOps_nil]
          refine aOps_store (by rfl) (by rfl) (by repeat (first | exact AHeap.set_same _ _ _ | assumption | refine (AHeap.set_ne _ _ (by first | assumption | exact Ne.symm (by assumption))).trans ?_)) sz32 (by rfl) (by rfl) (by first | exact Nat.le_refl _ | decide | (simp; done) | (simp; omega)) (Nat.zero_le _) (by rfl) ?_
          simp only [AHeap.set_set, AVal.cells]
          simp (decide := true) only [aOps_nil, ev, putD, Slots.put, Slots.get, Slots.keep, if_true, if_false, true_and, ↓ap_assign, pop_assign, setAt, List.set_cons_zero, List.set_cons_succ, Nat.zero_add]
          repeat (with_reducible refine And.intro ?_ ?_; · first | trivial | omega | (intro hg; simp only [Bool.and_eq_true, Bool.or_eq_true, Bool.not_eq_true', Bool.and_eq_false_iff, Bool.or_eq_false_iff, Bool.not_eq_false', decide_eq_true_eq, decide_eq_false_iff_not, eqNil] at hg; omega) | (simp only [List.length_append, List.length_map, List.length_range, List.length_replicate, List.length_take, List.length_drop, List.length_cons, List.length_nil, List.length_set, List.length_reverse]; omega))
          apply hK; clear hK K
          obtain ⟨b0, b1, b2⟩ := rd3 ((h6q1.set k7q1 ⟨[.int .i64 (bef ys i k).1, .int .i64 (bef ys i k).2], 0⟩).set k23q14 ⟨[.int .i64 (bef ys i k).1, .int .i64 ((bef ys i k).2 + 1)], 0⟩) (by repeat (first | exact Sub.refl _ | assumption | refine Sub.set_both ?_ _ _ | refine Sub.trans_set ?_ (by repeat (first | assumption | refine (AHeap.set_ne _ _ (by first | assumption | exact Ne.symm (by assumption))).trans ?_))))
          -- region 24  law.go:191
          refine awp_dseq_F 16 [14] [5, 7, 8, 9, 14, 15, 17] mixed (by kernel_rfl) (by rfl) fun K hK => ?_
          simp only [List.take_succ_cons, List.take_zero, List.drop_succ_cons, List.drop_zero]
          simp (decide := true) only [ev, absV, absS, putD, Slots.put, Slots.get, if_true, if_false, true_and, ↓fp_move, pop_move, ↓fp_indexAddr, pop_load, pIndexAddr_slice Tryd.underlying30 sz39, pop_indexAddr, ↓fp_load, pLoad_agg ag39 sz39, ↓fp_fieldAddr, pop_fieldAddr, fa39_1, pLoad_one ag9, ↓fp_len, pop_len, pLen_str Tryd.underlying9, ↓fp_binOp, pop_binOp, isNilC_int, cond_false, pBinX_int, pI_add, cellsAt, lv_bool, lv_str, allLive, Bool.and_true, b0, b1, b2, Int.toNat_natCast, hmvl]
          try simp (disch := omega) only [wrap_i64]
          repeat (with_reducible refine And.intro ?_ ?_; · first | trivial | omega | (intro hg; simp only [Bool.and_eq_true, Bool.or_eq_true, Bool.not_eq_true', Bool.and_eq_false_iff, Bool.or_eq_false_iff, Bool.not_eq_false', decide_eq_true_eq, decide_eq_false_iff_not, eqNil] at hg; omega) | (simp only [List.length_append, List.length_map, List.length_range, List.length_replicate, List.length_take, List.length_drop, List.length_cons, List.length_nil, List.length_set, List.length_reverse]; omega))
          refine fOps_callV (V := .tuple [.agg [.int .i64 0, .int .i64 0], .int .i64 1]) (by rfl) (by rfl) (by first | trivial | (simp (decide := true) only [AVal.okIn, okInL, and_true, true_and, faultA, markC, posA, cardA, rowA, AHeap.set_same, Option.isSome_some]; done) | (simp [AVal.okIn, okInL, AHeap.set]; done)) (fun g hg => (by have q := c_At w₀ g c mv ((c.text.length : Int) + 1) (e3.mono (Sub.trans (by repeat (first | exact Sub.refl _ | exact Sub.set hn_7q1 | refine Sub.trans_set ?_ (by assumption))) hg)) (by omega) (by omega) (by omega); rw [at_err (.inr (by omega))] at q; exact q)) ?_
          simp (decide := true) only [ev, putD, Slots.put, Slots.get, if_true, if_false, true_and, ↓fp_move, pop_move, ↓fp_extract, pop_extract, pExt_tuple, List.getD_cons_zero, List.getD_cons_succ, List.getD_cons_zero, List.getD_cons_succ]
          repeat (with_reducible refine And.intro ?_ ?_; · first | trivial | omega | (intro hg; simp only [Bool.and_eq_true, Bool.or_eq_true, Bool.not_eq_true', Bool.and_eq_false_iff, Bool.or_eq_false_iff, Bool.not_eq_false', decide_eq_true_eq, decide_eq_false_iff_not, eqNil] at hg; omega) | (simp only [List.length_append, List.length_map, List.length_range, List.length_replicate, List.length_take, List.length_drop, List.length_cons, List.length_nil, List.length_set, List.length_reverse]; omega))
          refine fOps_lay (by rfl) ?_
          refine aOps_alloc ze32 (cs := [.int .i64 0, .int .i64 0]) (by rfl) fun k24q15 hk24q15 => ?_
          have ne_24q15_7q1 : k24q15 ≠ k7q1 := by simp only [AHeap.set_none] at hk24q15; simp only [hk24q15, ne_eq, not_false_eq_true]
          have ne_24q15_23q14 : k24q15 ≠ k23q14 := by simp only [AHeap.set_none] at hk24q15; simp only [hk24q15, ne_eq, not_false_eq_true]
          have hn_24q15 : h6q1 k24q15 = none := by first | assumption | (simp only [AHeap.set_none] at hk24q15; simp only [hk24q15])
          have hf_24q15 : h k24q15 = none := Sub.none hs_h6q1 hn_24q15
          have ne_24q15_3q6 : k24q15 ≠ k3q6 := AHeap.ne_some hn_24q15 eb_3q6
          rw [aOps_nil]
          repeat (with_reducible refine And.intro ?_ ?_; · first | trivial | omega | (intro hg; simp only [Bool.and_eq_true, Bool.or_eq_true, Bool.not_eq_true', Bool.and_eq_false_iff, Bool.or_eq_false_iff, Bool.not_eq_false', decide_eq_true_eq, decide_eq_false_iff_not, eqNil] at hg; omega) | (simp only [List.length_append, List.length_map, List.length_range, List.length_replicate, List.length_take, List.length_drop, List.length_cons, List.length_nil, List.length_set, List.length_reverse]; omega))
          try simp only [fOps_nil]
          refine aOps_store (by rfl) (by rfl) (by repeat (first | exact AHeap.set_same _ _ _ | assumption | refine (AHeap.set_ne _ _ (by first | assumption | exact Ne.symm (by assumption))).trans ?_)) sz32 (by rfl) (by rfl) (by first | exact Nat.le_refl _ | decide | (simp; done) | (simp; omega)) (Nat.zero_le _) (by rfl) ?_
          simp only [AHeap.set_set, AVal.cells]
          simp (decide := true) only [aOps_nil, ev, putD, Slots.put, Slots.get, Slots.keep, if_true, if_false, true_and, ↓ap_assign, pop_assign, setAt, List.set_cons_zero, List.set_cons_succ, Nat.zero_add]
          repeat (with_reducible refine And.intro ?_ ?_; · first | trivial | omega | (intro hg; simp only [Bool.and_eq_true, Bool.or_eq_true, Bool.not_eq_true', Bool.and_eq_false_iff, Bool.or_eq_false_iff, Bool.not_eq_false', decide_eq_true_eq, decide_eq_false_iff_not, eqNil] at hg; omega) | (simp only [List.length_append, List.length_map, List.length_range, List.length_replicate, List.length_take, List.length_drop, List.length_cons, List.length_nil, List.length_set, List.length_reverse]; omega))
          apply hK; clear hK K
          obtain ⟨d0, d1, d2⟩ := rd3 (((h6q1.set k7q1 ⟨[.int .i64 (bef ys i k).1, .int .i64 (bef ys i k).2], 0⟩).set k23q14 ⟨[.int .i64 (bef ys i k).1, .int .i64 ((bef ys i k).2 + 1)], 0⟩).set k24q15 ⟨[.int .i64 0, .int .i64 0], 0⟩) (by repeat (first | exact Sub.refl _ | assumption | refine Sub.set_both ?_ _ _ | refine Sub.trans_set ?_ (by repeat (first | assumption | refine (AHeap.set_ne _ _ (by first | assumption | exact Ne.symm (by assumption))).trans ?_))))
          -- region 25  law.go:192
          refine awp_rseq [5, 7, 8, 9, 14, 15, 17, 19] (by rfl) fun K hK => ?_
          simp (decide := true) only [ev, putD, Slots.put, Slots.get, if_true, if_false, true_and, ↓ap_move, pop_move, ↓ap_indexAddrL, apL_mk, pIndexAddr_slice Tryd.underlying30 sz39, ↓ap_loadL, pLoad_agg ag39 sz39, cellsAt, lv_bool, lv_str, allLive, Bool.and_true, d0, d1, d2, Int.toNat_natCast, hmvl]
          repeat (with_reducible refine And.intro ?_ ?_; · first | trivial | omega | (intro hg; simp only [Bool.and_eq_true, Bool.or_eq_true, Bool.not_eq_true', Bool.and_eq_false_iff, Bool.or_eq_false_iff, Bool.not_eq_false', decide_eq_true_eq, decide_eq_false_iff_not, eqNil] at hg; omega) | (simp only [List.length_append, List.length_map, List.length_range, List.length_replicate, List.length_take, List.length_drop, List.length_cons, List.length_nil, List.length_set, List.length_reverse]; omega))
          refine aOps_callV (V := .tuple [.agg [.int .i64 0, .int .i64 0], .int .i64 1]) (by rfl) (by rfl) ((by have q := c_At w₀ (((h6q1.set k7q1 ⟨[.int .i64 (bef ys i k).1, .int .i64 (bef ys i k).2], 0⟩).set k23q14 ⟨[.int .i64 (bef ys i k).1, .int .i64 ((bef ys i k).2 + 1)], 0⟩).set k24q15 ⟨[.int .i64 0, .int .i64 0], 0⟩) c mv (-1) (e3.mono (by repeat (first | exact Sub.refl _ | assumption | refine Sub.set_both ?_ _ _ | refine Sub.trans_set ?_ (by repeat (first | assumption | refine (AHeap.set_ne _ _ (by first | assumption | exact Ne.symm (by assumption))).trans ?_))))) (by omega) (by omega) (by omega); rw [at_err (.inl (by omega))] at q; exact q)) ?_
          simp (decide := true) only [ev, putD, Slots.put, Slots.get, if_true, if_false, true_and, ↓ap_move, pop_move, ↓ap_extract, pop_extract, pExt_tuple, List.getD_cons_zero, List.getD_cons_succ, List.getD_cons_zero, List.getD_cons_succ]
          repeat (with_reducible refine And.intro ?_ ?_; · first | trivial | omega | (intro hg; simp only [Bool.and_eq_true, Bool.or_eq_true, Bool.not_eq_true', Bool.and_eq_false_iff, Bool.or_eq_false_iff, Bool.not_eq_false', decide_eq_true_eq, decide_eq_false_iff_not, eqNil] at hg; omega) | (simp only [List.length_append, List.length_map, List.length_range, List.length_replicate, List.length_take, List.length_drop, List.length_cons, List.length_nil, List.length_set, List.length_reverse]; omega))
          refine aOps_alloc ze32 (cs := [.int .i64 0, .int .i64 0]) (by rfl) fun k25q8 hk25q8 => ?_
          have ne_25q8_7q1 : k25q8 ≠ k7q1 := by simp only [AHeap.set_none] at hk25q8; simp only [hk25q8, ne_eq, not_false_eq_true]
          have ne_25q8_23q14 : k25q8 ≠ k23q14 := by simp only [AHeap.set_none] at hk25q8; simp only [hk25q8, ne_eq, not_false_eq_true]
          have ne_25q8_24q15 : k25q8 ≠ k24q15 := by simp only [AHeap.set_none] at hk25q8; simp only [hk25q8, ne_eq, not_false_eq_true]
          have hn_25q8 : h6q1 k25q8 = none := by first | assumption | (simp only [AHeap.set_none] at hk25q8; simp only [hk25q8])
          have hf_25q8 : h k25q8 = none := Sub.none hs_h6q1 hn_25q8
          have ne_25q8_3q6 : k25q8 ≠ k3q6 := AHeap.ne_some hn_25q8 eb_3q6
          refine aOps_store (by rfl) (by rfl) (by repeat (first | exact AHeap.set_same _ _ _ | assumption | refine (AHeap.set_ne _ _ (by first | assumption | exact Ne.symm (by assumption))).trans ?_)) sz32 (by rfl) (by rfl) (by first | exact Nat.le_refl _ | decide | (simp; done) | (simp; omega)) (Nat.zero_le _) (by rfl) ?_
          simp only [AHeap.set_set, AVal.cells]
          simp (decide := true) only [aOps_nil, ev, putD, Slots.put, Slots.get, Slots.keep, if_true, if_false, true_and, ↓ap_assign, pop_assign, setAt, List.set_cons_zero, List.set_cons_succ, Nat.zero_add]
          repeat (with_reducible refine And.intro ?_ ?_; · first | trivial | omega | (intro hg; simp only [Bool.and_eq_true, Bool.or_eq_true, Bool.not_eq_true', Bool.and_eq_false_iff, Bool.or_eq_false_iff, Bool.not_eq_false', decide_eq_true_eq, decide_eq_false_iff_not, eqNil] at hg; omega) | (simp only [List.length_append, List.length_map, List.length_range, List.length_replicate, List.length_take, List.length_drop, List.length_cons, List.length_nil, List.length_set, List.length_reverse]; omega))
          apply hK; clear hK K
          -- region 26  law.go:193
          refine awp_rseq [5, 7, 8, 9, 198] (by rfl) fun K hK => ?_
          simp (decide := true) only [aOps_nil, ev, absV, absS, putD, Slots.put, Slots.get, Slots.keep, if_true, if_false, true_and, ↓ap_move, pop_move, ↓ap_binOp, pop_binOp, isNilC_int, cond_false, pBinX_int, pI_neq, ↓ag_move, agP, agQ_some, nthDst, gKnown_bool, guardB_bool_false, implies_true, decide_true, Bool.not_false, Bool.not_true, condV_true, Bool.and_true, ↓ag_binOp, ↓ap_pick, pop_pick, pPick_bool, pickV_and, ↓ag_fieldAddr, pop_fieldAddr, fa32_1, ↓ag_loadL, agQL_some, agL_mk, pLoad_one ag3, pI_add, isNilC_tmp, fa32_0, rd_ne', ne_eq, not_false_eq_true, ne_23q14_7q1.symm, ne_24q15_7q1.symm, ne_24q15_23q14.symm, ne_25q8_7q1.symm, ne_25q8_23q14.symm, rd_any, List.getD_cons_zero, List.getD_cons_succ, Nat.zero_add, lv_int, Bool.and_true, hwb]
          try simp (disch := omega) only [wrap_i64, wrap_u8]
          repeat (with_reducible refine And.intro ?_ ?_; · first | trivial | omega | (intro hg; simp only [Bool.and_eq_true, Bool.or_eq_true, Bool.not_eq_true', Bool.and_eq_false_iff, Bool.or_eq_false_iff, Bool.not_eq_false', decide_eq_true_eq, decide_eq_false_iff_not, eqNil] at hg; omega) | (simp only [List.length_append, List.length_map, List.length_range, List.length_replicate, List.length_take, List.length_drop, List.length_cons, List.length_nil, List.length_set, List.length_reverse]; omega))
          apply hK; clear hK K
          refine awp_cond (b := _) rfl (fun hb8 => ?_) (fun hb8 => ?_)
          · first
            | exact absurd hb8 (by decide)
            | (simp at hb8; done)
          · try simp only at hb8
            refine awp_skip ?_
            change Awp _ _ _ _ _ _ _
            -- region 10  law.go:175
            refine awp_r [5, 7, 8, 9] (by rfl) ?_
            simp (decide := true) only [aOps_nil, ev, absV, absS, putD, Slots.put, Slots.get, Slots.keep, if_true, if_false, true_and, ↓ap_move, pop_move, ↓ap_binOp, pop_binOp, isNilC_int, cond_false, pBinX_int, pI_add, ↓ap_assign, pop_assign]
            try simp (disch := omega) only [wrap_i64]
            repeat (with_reducible refine And.intro ?_ ?_; · first | trivial | omega | (intro hg; simp only [Bool.and_eq_true, Bool.or_eq_true, Bool.not_eq_true', Bool.and_eq_false_iff, Bool.or_eq_false_iff, Bool.not_eq_false', decide_eq_true_eq, decide_eq_false_iff_not, eqNil] at hg; omega) | (simp only [List.length_append, List.length_map, List.length_range, List.length_replicate, List.length_take, List.length_drop, List.length_cons, List.length_nil, List.length_set, List.length_reverse]; omega))
            try simp only [thenA_normal]
            refine ⟨i + 1, rfl, ?_, by omega, by omega⟩
            rw [m2]
            exact (by repeat (first | exact Sub.refl _ | assumption | refine Sub.set_both ?_ _ _ | refine Sub.trans_set ?_ (by repeat (first | assumption | refine (AHeap.set_ne _ _ (by first | assumption | exact Ne.symm (by assumption))).trans ?_))))
      · try simp only [decide_eq_false_iff_not] at hb3
        refine awp_exit ?_
        change Awp _ _ _ _ _ _ _
        -- region 28  law.go:197
        refine awp_rseq [4] (by rfl) fun K hK => ?_
        refine aOps_callV (V := .bool true) (by rfl) (by rfl) (c_lives02 w₀ hm ht10 _) ?_
        simp (decide := true) only [aOps_nil, ev, putD, Slots.put, Slots.get, Slots.keep, if_true, if_false, true_and, ↓ap_assign, pop_assign]
        repeat (with_reducible refine And.intro ?_ ?_; · first | trivial | omega | (intro hg; simp only [Bool.and_eq_true, Bool.or_eq_true, Bool.not_eq_true', Bool.and_eq_false_iff, Bool.or_eq_false_iff, Bool.not_eq_false', decide_eq_true_eq, decide_eq_false_iff_not, eqNil] at hg; omega) | (simp only [List.length_append, List.length_map, List.length_range, List.length_replicate, List.length_take, List.length_drop, List.length_cons, List.length_nil, List.length_set, List.length_reverse]; omega))
        apply hK; clear hK K
        refine awp_ret ?_
        try simp only [thenA_ret, inBlockA_ret]
        refine retA_ret h (by repeat (first | exact Sub.refl _ | assumption | refine Sub.trans_set ?_ (by assumption))) (resPre_tmp (resPre_nil)) ?_
        simp (decide := true) only [Slots.get, if_true, and_true, resOf_one]
        all_goals first | rfl | exact ⟨rfl, rfl⟩ | (simp (decide := true) only [if_true, if_false, *]; done) | (trace_state; fail)
end Go.Proofs.YtikpnhdjjabdmaaDoor

/-
  The arguments of the statements, opened: booleans, texts, integers, pairs of bytes; the wrap that hands on the world's shape.
  Conditions: none.
-/
namespace Go.Proofs.YtikpnhdjjabdmaaDoor
open Go.AM
open Go.ChangeShapes Go.WideShapes Go.ChangeAt Go.RowKit
set_option maxRecDepth 100000

section
variable {H : Type} {enc : TypeId × Value → H} {W : World} {base : Nat} {v : Value} {x : DataW H × List MemPlace}
theorem arg_bool {t : TypeId} (ht : Tryd.prog.underlying t = some .bool) (hv : Value.okWide Tryd.prog W .any base t v) : ∃ b : Bool, VR (fun _ => none) (.bool b) v := by
  obtain ⟨b, rfl⟩ := okWide_bool ht hv
  exact ⟨b, by simp only [VR]⟩
theorem arg_str {t : TypeId} (ht : Tryd.prog.underlying t = some .string) (h : ∃ fuel, DataW.trod enc Tryd.prog W 0 (fun _ => true) true fuel t v.cells.toList = some x) (hv : Value.okWide Tryd.prog W .any base t v) :
    ∃ s : List UInt8, VR (fun _ => none) (.str s) v ∧ s.length ≤ 9223372036854775807 := by
  obtain ⟨fuel, hf⟩ := h
  obtain ⟨s, rfl⟩ := okWide_string ht hv
  obtain ⟨s', h, hx, hs⟩ := DataW.trod_string ht hf
  simp [Value.cells] at h
  subst h
  exact ⟨s.data.toList, VR_strArg _ s, str_le hs⟩
end

/-- The plain wrap of a row with listed variables, the world's shape handed on. -/
theorem returns_and_shaped {H : Type} {enc : TypeId × Value → H} {a : Assume} {C : Checked} {os : Os} {f : FuncId} {fn : Func} {s : ChangeSpec} {conds : List PathCond} {apart fresh handsOn again : Bool} {X : World → Array Value → Prop}
    (hX : ∀ (w w' : World) (args : Array Value), w.heap = w'.heap → X w args → X w' args)
    (own : ownKnob C.prog.godebug = none) (started : os.Started) (noInit : C.prog.inits.idxOf? f = none) (hfn : C.prog.funcs[f]? = some fn)
    (witness : ∃ (w : World) (tape : Tape) (i : Input), w.os = os ∧ (w.forCall tape i).Shaped C.prog ∧ i.vars = [] ∧ Input.okWide C.prog (w.forCall tape i) .any w.heap.size f i ∧
      ((s.pre enc C.prog fn conds apart (w.forCall tape i).memory i.args ∧ X (w.forCall tape i).memory i.args) ∧ sizedMet enc C.prog fn (OpenSpec.ofChange s) apart (w.forCall tape i).memory i.args) ∧ a.holds C.prog (lone (Frame.enter C.prog f i.args .normal) [] (w.forCall tape i)))
    (contract : ∀ (W : World) (base : Nat) (args : Array Value) (ds gs : List (DataW H)) (before : List MemPlace), W.ShapedOpen C.prog →
      (∀ (j : Nat) t v, fn.params[j]? = some t → args[j]? = some v → Value.okWide C.prog W .any base t v) →
      DataW.Whole enc C.prog fn.params.toList s.vars apart W args.toList ds gs before →
      conds.all (PathCond.test C.prog ⟨fn.params.toList, ds, s.plain.varTypes C.prog, gs⟩) = true →
      (DataW.weightsEach C.prog (fn.params.toList ++ s.plain.varTypes C.prog) (ds ++ gs)).all (· ≤ reachBytes) = true → X W args →
      a.holds C.prog (lone (Frame.enter C.prog f args .normal) [] W) →
      Calls C.prog f args W fun e W' => ∃ v, e = .returned v ∧ s.post enc C.prog fn apart fresh handsOn again W args v W') :
    ReturnsInHanded a C os f .any (fun w args => (s.pre enc C.prog fn conds apart w args ∧ X w args) ∧ sizedMet enc C.prog fn (OpenSpec.ofChange s) apart w args) (s.post enc C.prog fn apart fresh handsOn again) := by
  refine returnsInHanded_of_calls own started noInit witness ?_
  intro w tape i _ hsh _ hok hpre hholds
  obtain ⟨_, _, _, fn', hfn', _, _, _, _, hval⟩ := hok
  have e : fn' = fn := Option.some.inj (hfn'.symm.trans hfn)
  subst e
  obtain ⟨⟨⟨ds, gs, before, hw, hc⟩, hx⟩, hz⟩ := hpre
  have hw' := DataW.Whole.of_heap (w' := w.forCall tape i) (by rfl) hw
  refine (contract (w.forCall tape i) w.heap.size i.args ds gs before hsh hval hw' hc (hz.weights hw) (hX _ _ _ (by rfl) hx) hholds).mono fun e W' ⟨v, he, hp⟩ => ?_
  subst he
  exact ChangeSpec.post_blind hp
end Go.Proofs.YtikpnhdjjabdmaaDoor

/-
  What the world of a statement about columns gives: the listed table, the cell of the longest text.
  Conditions: none.
-/
namespace Go.Proofs.YtikpnhdjjabdmaaDoor
open Go.AM
open Go.ChangeShapes Go.WideShapes Go.ChangeAt Go.RowKit
set_option maxRecDepth 100000
/-- The listed table of powers of ten. -/
theorem tab_of {W : World} {rest : List (String × DataW Unit)} (h : laidMet Tryd.prog (("internal/strconv.uint64pow10", Rows.laid_internal_strconv_uint64pow10) :: rest) W) : Tab10 W :=
  Lib.tabIs_of_head (g := 3) (by kernel_rfl) (by kernel_rfl) (show Tryd.prog.underlying 138 = _ from Tryd.underlying138) Tryd.underlying116 (by kernel_rfl) (by kernel_rfl) h
theorem maxl_of {W : World} (h : W.ShapedOpen Tryd.prog) : MaxL W :=
  cell_of_shapedOpen_int (t := 3) (zero := #[.int .i64 0]) h (of_decide_eq_true (by kernel_rfl)) (by kernel_rfl) rfl (by kernel_rfl) (by kernel_rfl) Tryd.underlying3
end Go.Proofs.YtikpnhdjjabdmaaDoor

