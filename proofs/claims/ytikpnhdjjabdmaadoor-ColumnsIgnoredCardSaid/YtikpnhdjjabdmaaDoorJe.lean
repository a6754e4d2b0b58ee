/-
  Texts of this proof, joined: CoP, CoQ, CoR, CoS, CoT, CoU, LwR, LwS.
  Conditions: none.
-/
import Derived.Test.YtikpnhdjjabdmaaDoorJd
import Derived.Test.YtikpnhdjjabdmaaDoorJc
import Derived.Test.YtikpnhdjjabdmaaDoorProg
import Derived.Test.YtikpnhdjjabdmaaDoorJb
import Derived.WalkKit
import Derived.ProofKit
import Derived.OpenShut
import Derived.ShutString
import Derived.ChangeOld
import Derived.Below
import Derived.Deep.Strs
import Derived.Handed
import Derived.HandedShaped
import Derived.Shelf.Vars
import Derived.Test.YtikpnhdjjabdmaaDoorRows
import Derived.Lib.LaidTab
import Derived.MakeChecks
set_option linter.unusedSimpArgs false
set_option linter.unnecessarySimpa false
set_option linter.unusedVariables false
/-
  Contracts: lives of the laws.
  Conditions: none.
-/
namespace Go.Proofs.YtikpnhdjjabdmaaDoor
open Go.AM
open Go.Proofs
open Go.Col
set_option maxRecDepth 100000

theorem rt1 : readT (sp 13 ++ [65, 68, 68, 32, 49]) = ([65, 68, 68, 32, 49], ⟨0, 0, 0⟩) := by kernel_rfl
theorem rt2 : readT (sp 7 ++ [77, 65, 73, 78, 10] ++ sp 6 ++ [42, 78, 79, 84, 69]) = ([77, 65, 73, 78, 60], ⟨0, 0, 0⟩) := by kernel_rfl
theorem rt3 : readT (sp 11 ++ [65, 32, 34, 66, 10] ++ sp 6 ++ [45, 32, 32, 32, 32, 34, 67, 34, 10]) = (([65, 32, 34, 66] ++ sp 57 ++ [67, 34]), ⟨0, 0, 0⟩) := by kernel_rfl
theorem rt4 : readT (sp 11 ++ [80, 69, 82, 70, 10] ++ sp 6 ++ [45, 32, 32, 32, 32, 79, 82, 77, 32, 80]) = ([80, 69, 82, 70, 79, 82, 77, 32, 80], ⟨0, 0, 0⟩) := by kernel_rfl
theorem rt5 : readT (sp 6 ++ [45, 32, 32, 32, 32, 88]) = ([], ⟨6, 1, 7⟩) := by kernel_rfl
theorem rt6 : readT (sp 11 ++ [65, 32, 34, 66]) = ([], ⟨4, 1, 12⟩) := by kernel_rfl
theorem digs_1 : digs (1 % 1000000) = [49] := Lib.decDigits_one (by decide)
theorem wr_one (l : Bool) (s : Str) (hr : rightE s = true) (hs : s.length ≤ 60) : writeE [(l, s)] = (outE 1 [32] (if l = true then 8 else 12) s, 0) := by
  have hl := outE_len 1 (if l = true then 8 else 12) [32] s
  have ht : textE (s.length + 1) (if l = true then 8 else 12) [32] false 0 [] s = (1, outE 1 [32] (if l = true then 8 else 12) s) := by
    rw [textE_short (by simp only [Bool.false_eq_true, if_false]; split <;> omega)]
    rfl
  unfold writeE
  simp only [List.all_cons, List.all_nil, Bool.and_true, hr, if_true, writeGo, ht]
  rw [if_neg (by rw [hl]; simp only [List.length_cons, List.length_nil]; split <;> omega)]
theorem wr1 : writeE [(false, [83, 84, 79, 80, 32, 82, 85, 78, 46])] = ([48, 48, 48, 48, 48, 49, 32, 32, 32, 32, 32, 83, 84, 79, 80, 32, 82, 85, 78, 46, 10], 0) := by
  rw [wr_one _ _ (by decide) (by decide)]
  unfold outE
  rw [digs_1]
  rfl
theorem wr2 : writeE [(true, [83, 84, 79, 80, 32, 82, 85, 78, 46])] = ([48, 48, 48, 48, 48, 49, 32, 83, 84, 79, 80, 32, 82, 85, 78, 46, 10], 0) := by
  rw [wr_one _ _ (by decide) (by decide)]
  unfold outE
  rw [digs_1]
  rfl
theorem isLines {w₀ : World} {h : AHeap} {k : Nat} {ls : List (Bool × Str)} (hk : h k = some ⟨(ls.map lineC).flatten, 0⟩) (c : Cap) (hc : c = .exact ls.length) : IsL w₀ h 2 (.slice (.own k) 0 ls.length c) (ls.map lineC) := by
  have hw : ∀ x ∈ ls.map lineC, x.length = 2 := fun x hx => by obtain ⟨y, _, rfl⟩ := List.mem_map.1 hx; rfl
  have hl : allLive (ls.map lineC).flatten = true := allLive_flatten.2 fun x hx => by obtain ⟨y, _, rfl⟩ := List.mem_map.1 hx; rfl
  have := IsL.own (w₀ := w₀) hk hw rfl hl c (by rw [hc]; simp)
  rw [List.length_map] at this
  exact this
set_option maxHeartbeats 2000000 in
theorem c_lives02 (w₀ : World) (hm : MaxL w₀) (ht10 : Tab10 w₀) (h : AHeap) : ACall Tryd.prog w₀ 8 [] h (fun v h' => v = .bool true ∧ h' = h) := by
  refine acall_intro (n := 139) (rs := [.tmp 0]) Tryd.func8 rfl rfl rfl rfl (Nat.le_of_ble_eq_true rfl) ?_
  simp only [initSlots]
  -- region 0  law.go:30
  refine awp_rseq [] (by rfl) fun K hK => ?_
  simp (decide := true) only [aOps_nil, ev, absV, absS, putD, Slots.put, Slots.keep, if_false, true_and, ↓ap_assign, pop_assign]
  repeat (with_reducible refine And.intro ?_ ?_; · first | trivial | omega | (intro hg; simp only [Bool.and_eq_true, Bool.or_eq_true, Bool.not_eq_true', Bool.and_eq_false_iff, Bool.or_eq_false_iff, Bool.not_eq_false', decide_eq_true_eq, decide_eq_false_iff_not, eqNil] at hg; omega) | (simp only [List.length_append, List.length_map, List.length_range, List.length_replicate, List.length_take, List.length_drop, List.length_cons, List.length_nil, List.length_set, List.length_reverse]; omega))
  apply hK; clear hK K
  -- region 1  law.go:31
  refine awp_rseq [1, 2] (by rfl) fun K hK => ?_
  refine aOps_callV (V := .str (sp 13)) (by rfl) (by rfl) (c_spaces w₀ _ 13 (by decide)) ?_
  simp (decide := true) only [ev, absV, absS, putD, Slots.put, Slots.get, if_true, if_false, true_and, ↓ap_binOp, pop_binOp, isNilC_str, cond_false, pBinX_str, pS_add]
  repeat (with_reducible refine And.intro ?_ ?_; · first | trivial | omega | (intro hg; simp only [Bool.and_eq_true, Bool.or_eq_true, Bool.not_eq_true', Bool.and_eq_false_iff, Bool.or_eq_false_iff, Bool.not_eq_false', decide_eq_true_eq, decide_eq_false_iff_not, eqNil] at hg; omega) | (simp only [List.length_append, List.length_map, List.length_range, List.length_replicate, List.length_take, List.length_drop, List.length_cons, List.length_nil, List.length_set, List.length_reverse]; omega))
  refine aOps_call (by rfl) (by rfl) (c_read1 w₀ hm _ (sp 13 ++ [65, 68, 68, 32, 49]) (by decide)) fun x1q2 h1q2 hx1q2 => ?_
  rw [rt1] at hx1q2
  obtain ⟨rfl, hs1⟩ := hx1q2
  have hs_h1q2 : Sub h h1q2 := Sub.trans (by repeat (first | exact Sub.refl _ | assumption | refine Sub.trans_set ?_ (by assumption))) hs1
  have hr_h1q2 := hs_h1q2
  simp (decide := true) only [ev, putD, Slots.put, Slots.get, if_true, if_false, true_and, ↓ap_move, pop_move, ↓ap_extract, pop_extract, pExt_tuple, List.getD_cons_zero, List.getD_cons_succ, List.getD_cons_zero, List.getD_cons_succ, faultA]
  repeat (with_reducible refine And.intro ?_ ?_; · first | trivial | omega | (intro hg; simp only [Bool.and_eq_true, Bool.or_eq_true, Bool.not_eq_true', Bool.and_eq_false_iff, Bool.or_eq_false_iff, Bool.not_eq_false', decide_eq_true_eq, decide_eq_false_iff_not, eqNil] at hg; omega) | (simp only [List.length_append, List.length_map, List.length_range, List.length_replicate, List.length_take, List.length_drop, List.length_cons, List.length_nil, List.length_set, List.length_reverse]; omega))
  refine aOps_alloc ze34 (cs := [.int .i64 0, .int .i64 0, .int .i64 0]) (by rfl) fun k1q6 hk1q6 => ?_
  have hn_1q6 : h1q2 k1q6 = none := by first | assumption | (simp only [AHeap.set_none] at hk1q6; simp only [hk1q6])
  have hf_1q6 : h k1q6 = none := Sub.none hs_h1q2 hn_1q6
  simp (decide := true) only [ev, putD, Slots.put, Slots.get, if_true, if_false, true_and, ↓ap_assign, pop_assign]
  repeat (with_reducible refine And.intro ?_ ?_; · first | trivial | omega | (intro hg; simp only [Bool.and_eq_true, Bool.or_eq_true, Bool.not_eq_true', Bool.and_eq_false_iff, Bool.or_eq_false_iff, Bool.not_eq_false', decide_eq_true_eq, decide_eq_false_iff_not, eqNil] at hg; omega) | (simp only [List.length_append, List.length_map, List.length_range, List.length_replicate, List.length_take, List.length_drop, List.length_cons, List.length_nil, List.length_set, List.length_reverse]; omega))
  refine aOps_store (by rfl) (by rfl) (by repeat (first | exact AHeap.set_same _ _ _ | assumption | refine (AHeap.set_ne _ _ (by first | assumption | exact Ne.symm (by assumption))).trans ?_)) sz34 (by rfl) (by rfl) (by first | exact Nat.le_refl _ | decide | (simp; done) | (simp; omega)) (Nat.zero_le _) (by rfl) ?_
  simp only [AHeap.set_set, AVal.cells]
  simp (decide := true) only [aOps_nil, ev, putD, Slots.get, Slots.keep, if_true, if_false, setAt, List.set_cons_zero, List.set_cons_succ, Nat.zero_add, Nat.reduceAdd]
  repeat (with_reducible refine And.intro ?_ ?_; · first | trivial | omega | (intro hg; simp only [Bool.and_eq_true, Bool.or_eq_true, Bool.not_eq_true', Bool.and_eq_false_iff, Bool.or_eq_false_iff, Bool.not_eq_false', decide_eq_true_eq, decide_eq_false_iff_not, eqNil] at hg; omega) | (simp only [List.length_append, List.length_map, List.length_range, List.length_replicate, List.length_take, List.length_drop, List.length_cons, List.length_nil, List.length_set, List.length_reverse]; omega))
  apply hK; clear hK K
  -- region 2  law.go:32
  refine awp_rseq [1, 2, 3, 4] (by rfl) fun K hK => ?_
  refine aOps_callV (V := .str (sp 7)) (by rfl) (by rfl) (c_spaces w₀ _ 7 (by decide)) ?_
  simp (decide := true) only [ev, absV, absS, putD, Slots.put, Slots.get, if_true, if_false, true_and, ↓ap_binOp, pop_binOp, isNilC_str, cond_false, pBinX_str, pS_add]
  repeat (with_reducible refine And.intro ?_ ?_; · first | trivial | omega | (intro hg; simp only [Bool.and_eq_true, Bool.or_eq_true, Bool.not_eq_true', Bool.and_eq_false_iff, Bool.or_eq_false_iff, Bool.not_eq_false', decide_eq_true_eq, decide_eq_false_iff_not, eqNil] at hg; omega) | (simp only [List.length_append, List.length_map, List.length_range, List.length_replicate, List.length_take, List.length_drop, List.length_cons, List.length_nil, List.length_set, List.length_reverse]; omega))
  refine aOps_callV (V := .str (sp 6)) (by rfl) (by rfl) (c_spaces w₀ _ 6 (by decide)) ?_
  simp (decide := true) only [ev, absV, absS, putD, Slots.put, Slots.get, if_true, if_false, true_and, ↓ap_binOp, pop_binOp, isNilC_tmp, cond_false, pBinX_str, pS_add, isNilC_str]
  repeat (with_reducible refine And.intro ?_ ?_; · first | trivial | omega | (intro hg; simp only [Bool.and_eq_true, Bool.or_eq_true, Bool.not_eq_true', Bool.and_eq_false_iff, Bool.or_eq_false_iff, Bool.not_eq_false', decide_eq_true_eq, decide_eq_false_iff_not, eqNil] at hg; omega) | (simp only [List.length_append, List.length_map, List.length_range, List.length_replicate, List.length_take, List.length_drop, List.length_cons, List.length_nil, List.length_set, List.length_reverse]; omega))
  refine aOps_call (by rfl) (by rfl) (c_read1 w₀ hm _ (sp 7 ++ [77, 65, 73, 78, 10] ++ sp 6 ++ [42, 78, 79, 84, 69]) (by decide)) fun x2q5 h2q5 hx2q5 => ?_
  rw [rt2] at hx2q5
  obtain ⟨rfl, hs2⟩ := hx2q5
  have hs_h2q5 : Sub h h2q5 := Sub.trans (by repeat (first | exact Sub.refl _ | assumption | refine Sub.trans_set ?_ (by assumption))) hs2
  have hr_h2q5 : Sub h1q2 h2q5 := Sub.trans (by repeat (first | exact Sub.refl _ | assumption | refine Sub.trans_set ?_ (by assumption))) hs2
  have eb_1q6 := hs2 k1q6 _ (by repeat (first | exact AHeap.set_same _ _ _ | assumption | refine (AHeap.set_ne _ _ (by first | assumption | exact Ne.symm (by assumption))).trans ?_))
  simp (decide := true) only [ev, putD, Slots.put, Slots.get, if_true, if_false, true_and, ↓ap_move, pop_move, ↓ap_extract, pop_extract, pExt_tuple, List.getD_cons_zero, List.getD_cons_succ, List.getD_cons_zero, List.getD_cons_succ, faultA]
  repeat (with_reducible refine And.intro ?_ ?_; · first | trivial | omega | (intro hg; simp only [Bool.and_eq_true, Bool.or_eq_true, Bool.not_eq_true', Bool.and_eq_false_iff, Bool.or_eq_false_iff, Bool.not_eq_false', decide_eq_true_eq, decide_eq_false_iff_not, eqNil] at hg; omega) | (simp only [List.length_append, List.length_map, List.length_range, List.length_replicate, List.length_take, List.length_drop, List.length_cons, List.length_nil, List.length_set, List.length_reverse]; omega))
  refine aOps_alloc ze34 (cs := [.int .i64 0, .int .i64 0, .int .i64 0]) (by rfl) fun k2q9 hk2q9 => ?_
  have hn_2q9 : h2q5 k2q9 = none := by first | assumption | (simp only [AHeap.set_none] at hk2q9; simp only [hk2q9])
  have hf_2q9 : h k2q9 = none := Sub.none hs_h2q5 hn_2q9
  have ne_2q9_1q6 : k2q9 ≠ k1q6 := AHeap.ne_some hn_2q9 eb_1q6
  simp (decide := true) only [ev, putD, Slots.put, Slots.get, if_true, if_false, true_and, ↓ap_assign, pop_assign]
  repeat (with_reducible refine And.intro ?_ ?_; · first | trivial | omega | (intro hg; simp only [Bool.and_eq_true, Bool.or_eq_true, Bool.not_eq_true', Bool.and_eq_false_iff, Bool.or_eq_false_iff, Bool.not_eq_false', decide_eq_true_eq, decide_eq_false_iff_not, eqNil] at hg; omega) | (simp only [List.length_append, List.length_map, List.length_range, List.length_replicate, List.length_take, List.length_drop, List.length_cons, List.length_nil, List.length_set, List.length_reverse]; omega))
  refine aOps_store (by rfl) (by rfl) (by repeat (first | exact AHeap.set_same _ _ _ | assumption | refine (AHeap.set_ne _ _ (by first | assumption | exact Ne.symm (by assumption))).trans ?_)) sz34 (by rfl) (by rfl) (by first | exact Nat.le_refl _ | decide | (simp; done) | (simp; omega)) (Nat.zero_le _) (by rfl) ?_
  simp only [AHeap.set_set, AVal.cells]
  simp (decide := true) only [aOps_nil, ev, putD, Slots.get, Slots.keep, if_true, if_false, setAt, List.set_cons_zero, List.set_cons_succ, Nat.zero_add, Nat.reduceAdd]
  repeat (with_reducible refine And.intro ?_ ?_; · first | trivial | omega | (intro hg; simp only [Bool.and_eq_true, Bool.or_eq_true, Bool.not_eq_true', Bool.and_eq_false_iff, Bool.or_eq_false_iff, Bool.not_eq_false', decide_eq_true_eq, decide_eq_false_iff_not, eqNil] at hg; omega) | (simp only [List.length_append, List.length_map, List.length_range, List.length_replicate, List.length_take, List.length_drop, List.length_cons, List.length_nil, List.length_set, List.length_reverse]; omega))
  apply hK; clear hK K
  -- region 3  law.go:33
  refine awp_rseq [1, 2, 3, 4, 5, 6] (by rfl) fun K hK => ?_
  refine aOps_callV (V := .str (sp 11)) (by rfl) (by rfl) (c_spaces w₀ _ 11 (by decide)) ?_
  simp (decide := true) only [ev, absV, absS, putD, Slots.put, Slots.get, if_true, if_false, true_and, ↓ap_binOp, pop_binOp, isNilC_str, cond_false, pBinX_str, pS_add]
  repeat (with_reducible refine And.intro ?_ ?_; · first | trivial | omega | (intro hg; simp only [Bool.and_eq_true, Bool.or_eq_true, Bool.not_eq_true', Bool.and_eq_false_iff, Bool.or_eq_false_iff, Bool.not_eq_false', decide_eq_true_eq, decide_eq_false_iff_not, eqNil] at hg; omega) | (simp only [List.length_append, List.length_map, List.length_range, List.length_replicate, List.length_take, List.length_drop, List.length_cons, List.length_nil, List.length_set, List.length_reverse]; omega))
  refine aOps_callV (V := .str (sp 6)) (by rfl) (by rfl) (c_spaces w₀ _ 6 (by decide)) ?_
  simp (decide := true) only [ev, absV, absS, putD, Slots.put, Slots.get, if_true, if_false, true_and, ↓ap_binOp, pop_binOp, isNilC_tmp, cond_false, pBinX_str, pS_add, isNilC_str]
  repeat (with_reducible refine And.intro ?_ ?_; · first | trivial | omega | (intro hg; simp only [Bool.and_eq_true, Bool.or_eq_true, Bool.not_eq_true', Bool.and_eq_false_iff, Bool.or_eq_false_iff, Bool.not_eq_false', decide_eq_true_eq, decide_eq_false_iff_not, eqNil] at hg; omega) | (simp only [List.length_append, List.length_map, List.length_range, List.length_replicate, List.length_take, List.length_drop, List.length_cons, List.length_nil, List.length_set, List.length_reverse]; omega))
  refine aOps_call (by rfl) (by rfl) (c_read1 w₀ hm _ (sp 11 ++ [65, 32, 34, 66, 10] ++ sp 6 ++ [45, 32, 32, 32, 32, 34, 67, 34, 10]) (by decide)) fun x3q5 h3q5 hx3q5 => ?_
  rw [rt3] at hx3q5
  obtain ⟨rfl, hs3⟩ := hx3q5
  have hs_h3q5 : Sub h h3q5 := Sub.trans (by repeat (first | exact Sub.refl _ | assumption | refine Sub.trans_set ?_ (by assumption))) hs3
  have hr_h3q5 : Sub h2q5 h3q5 := Sub.trans (by repeat (first | exact Sub.refl _ | assumption | refine Sub.trans_set ?_ (by assumption))) hs3
  have eb_2q9 := hs3 k2q9 _ (by repeat (first | exact AHeap.set_same _ _ _ | assumption | refine (AHeap.set_ne _ _ (by first | assumption | exact Ne.symm (by assumption))).trans ?_))
  have eb_1q6 := hs3 k1q6 _ (by repeat (first | exact AHeap.set_same _ _ _ | assumption | refine (AHeap.set_ne _ _ (by first | assumption | exact Ne.symm (by assumption))).trans ?_))
  simp (decide := true) only [ev, putD, Slots.put, Slots.get, if_true, if_false, true_and, ↓ap_move, pop_move, ↓ap_extract, pop_extract, pExt_tuple, List.getD_cons_zero, List.getD_cons_succ, List.getD_cons_zero, List.getD_cons_succ, faultA]
  repeat (with_reducible refine And.intro ?_ ?_; · first | trivial | omega | (intro hg; simp only [Bool.and_eq_true, Bool.or_eq_true, Bool.not_eq_true', Bool.and_eq_false_iff, Bool.or_eq_false_iff, Bool.not_eq_false', decide_eq_true_eq, decide_eq_false_iff_not, eqNil] at hg; omega) | (simp only [List.length_append, List.length_map, List.length_range, List.length_replicate, List.length_take, List.length_drop, List.length_cons, List.length_nil, List.length_set, List.length_reverse]; omega))
  refine aOps_alloc ze34 (cs := [.int .i64 0, .int .i64 0, .int .i64 0]) (by rfl) fun k3q9 hk3q9 => ?_
  have hn_3q9 : h3q5 k3q9 = none := by first | assumption | (simp only [AHeap.set_none] at hk3q9; simp only [hk3q9])
  have hf_3q9 : h k3q9 = none := Sub.none hs_h3q5 hn_3q9
  have ne_3q9_1q6 : k3q9 ≠ k1q6 := AHeap.ne_some hn_3q9 eb_1q6
  have ne_3q9_2q9 : k3q9 ≠ k2q9 := AHeap.ne_some hn_3q9 eb_2q9
  simp (decide := true) only [ev, putD, Slots.put, Slots.get, if_true, if_false, true_and, ↓ap_assign, pop_assign]
  repeat (with_reducible refine And.intro ?_ ?_; · first | trivial | omega | (intro hg; simp only [Bool.and_eq_true, Bool.or_eq_true, Bool.not_eq_true', Bool.and_eq_false_iff, Bool.or_eq_false_iff, Bool.not_eq_false', decide_eq_true_eq, decide_eq_false_iff_not, eqNil] at hg; omega) | (simp only [List.length_append, List.length_map, List.length_range, List.length_replicate, List.length_take, List.length_drop, List.length_cons, List.length_nil, List.length_set, List.length_reverse]; omega))
  refine aOps_store (by rfl) (by rfl) (by repeat (first | exact AHeap.set_same _ _ _ | assumption | refine (AHeap.set_ne _ _ (by first | assumption | exact Ne.symm (by assumption))).trans ?_)) sz34 (by rfl) (by rfl) (by first | exact Nat.le_refl _ | decide | (simp; done) | (simp; omega)) (Nat.zero_le _) (by rfl) ?_
  simp only [AHeap.set_set, AVal.cells]
  simp (decide := true) only [aOps_nil, ev, putD, Slots.get, Slots.keep, if_true, if_false, setAt, List.set_cons_zero, List.set_cons_succ, Nat.zero_add, Nat.reduceAdd]
  repeat (with_reducible refine And.intro ?_ ?_; · first | trivial | omega | (intro hg; simp only [Bool.and_eq_true, Bool.or_eq_true, Bool.not_eq_true', Bool.and_eq_false_iff, Bool.or_eq_false_iff, Bool.not_eq_false', decide_eq_true_eq, decide_eq_false_iff_not, eqNil] at hg; omega) | (simp only [List.length_append, List.length_map, List.length_range, List.length_replicate, List.length_take, List.length_drop, List.length_cons, List.length_nil, List.length_set, List.length_reverse]; omega))
  apply hK; clear hK K
  -- region 4  law.go:34
  refine awp_rseq [1, 2, 3, 4, 5, 6, 7, 8] (by rfl) fun K hK => ?_
  refine aOps_callV (V := .str (sp 11)) (by rfl) (by rfl) (c_spaces w₀ _ 11 (by decide)) ?_
  simp (decide := true) only [ev, absV, absS, putD, Slots.put, Slots.get, if_true, if_false, true_and, ↓ap_binOp, pop_binOp, isNilC_str, cond_false, pBinX_str, pS_add]
  repeat (with_reducible refine And.intro ?_ ?_; · first | trivial | omega | (intro hg; simp only [Bool.and_eq_true, Bool.or_eq_true, Bool.not_eq_true', Bool.and_eq_false_iff, Bool.or_eq_false_iff, Bool.not_eq_false', decide_eq_true_eq, decide_eq_false_iff_not, eqNil] at hg; omega) | (simp only [List.length_append, List.length_map, List.length_range, List.length_replicate, List.length_take, List.length_drop, List.length_cons, List.length_nil, List.length_set, List.length_reverse]; omega))
  refine aOps_callV (V := .str (sp 6)) (by rfl) (by rfl) (c_spaces w₀ _ 6 (by decide)) ?_
  simp (decide := true) only [ev, absV, absS, putD, Slots.put, Slots.get, if_true, if_false, true_and, ↓ap_binOp, pop_binOp, isNilC_tmp, cond_false, pBinX_str, pS_add, isNilC_str]
  repeat (with_reducible refine And.intro ?_ ?_; · first | trivial | omega | (intro hg; simp only [Bool.and_eq_true, Bool.or_eq_true, Bool.not_eq_true', Bool.and_eq_false_iff, Bool.or_eq_false_iff, Bool.not_eq_false', decide_eq_true_eq, decide_eq_false_iff_not, eqNil] at hg; omega) | (simp only [List.length_append, List.length_map, List.length_range, List.length_replicate, List.length_take, List.length_drop, List.length_cons, List.length_nil, List.length_set, List.length_reverse]; omega))
  refine aOps_call (by rfl) (by rfl) (c_read1 w₀ hm _ (sp 11 ++ [80, 69, 82, 70, 10] ++ sp 6 ++ [45, 32, 32, 32, 32, 79, 82, 77, 32, 80]) (by decide)) fun x4q5 h4q5 hx4q5 => ?_
  rw [rt4] at hx4q5
  obtain ⟨rfl, hs4⟩ := hx4q5
  have hs_h4q5 : Sub h h4q5 := Sub.trans (by repeat (first | exact Sub.refl _ | assumption | refine Sub.trans_set ?_ (by assumption))) hs4
  have hr_h4q5 : Sub h3q5 h4q5 := Sub.trans (by repeat (first | exact Sub.refl _ | assumption | refine Sub.trans_set ?_ (by assumption))) hs4
  have eb_3q9 := hs4 k3q9 _ (by repeat (first | exact AHeap.set_same _ _ _ | assumption | refine (AHeap.set_ne _ _ (by first | assumption | exact Ne.symm (by assumption))).trans ?_))
  have eb_1q6 := hs4 k1q6 _ (by repeat (first | exact AHeap.set_same _ _ _ | assumption | refine (AHeap.set_ne _ _ (by first | assumption | exact Ne.symm (by assumption))).trans ?_))
  have eb_2q9 := hs4 k2q9 _ (by repeat (first | exact AHeap.set_same _ _ _ | assumption | refine (AHeap.set_ne _ _ (by first | assumption | exact Ne.symm (by assumption))).trans ?_))
  simp (decide := true) only [ev, putD, Slots.put, Slots.get, if_true, if_false, true_and, ↓ap_move, pop_move, ↓ap_extract, pop_extract, pExt_tuple, List.getD_cons_zero, List.getD_cons_succ, List.getD_cons_zero, List.getD_cons_succ, faultA]
  repeat (with_reducible refine And.intro ?_ ?_; · first | trivial | omega | (intro hg; simp only [Bool.and_eq_true, Bool.or_eq_true, Bool.not_eq_true', Bool.and_eq_false_iff, Bool.or_eq_false_iff, Bool.not_eq_false', decide_eq_true_eq, decide_eq_false_iff_not, eqNil] at hg; omega) | (simp only [List.length_append, List.length_map, List.length_range, List.length_replicate, List.length_take, List.length_drop, List.length_cons, List.length_nil, List.length_set, List.length_reverse]; omega))
  refine aOps_alloc ze34 (cs := [.int .i64 0, .int .i64 0, .int .i64 0]) (by rfl) fun k4q9 hk4q9 => ?_
  have hn_4q9 : h4q5 k4q9 = none := by first | assumption | (simp only [AHeap.set_none] at hk4q9; simp only [hk4q9])
  have hf_4q9 : h k4q9 = none := Sub.none hs_h4q5 hn_4q9
  have ne_4q9_1q6 : k4q9 ≠ k1q6 := AHeap.ne_some hn_4q9 eb_1q6
  have ne_4q9_2q9 : k4q9 ≠ k2q9 := AHeap.ne_some hn_4q9 eb_2q9
  have ne_4q9_3q9 : k4q9 ≠ k3q9 := AHeap.ne_some hn_4q9 eb_3q9
  simp (decide := true) only [ev, putD, Slots.put, Slots.get, if_true, if_false, true_and, ↓ap_assign, pop_assign]
  repeat (with_reducible refine And.intro ?_ ?_; · first | trivial | omega | (intro hg; simp only [Bool.and_eq_true, Bool.or_eq_true, Bool.not_eq_true', Bool.and_eq_false_iff, Bool.or_eq_false_iff, Bool.not_eq_false', decide_eq_true_eq, decide_eq_false_iff_not, eqNil] at hg; omega) | (simp only [List.length_append, List.length_map, List.length_range, List.length_replicate, List.length_take, List.length_drop, List.length_cons, List.length_nil, List.length_set, List.length_reverse]; omega))
  refine aOps_store (by rfl) (by rfl) (by repeat (first | exact AHeap.set_same _ _ _ | assumption | refine (AHeap.set_ne _ _ (by first | assumption | exact Ne.symm (by assumption))).trans ?_)) sz34 (by rfl) (by rfl) (by first | exact Nat.le_refl _ | decide | (simp; done) | (simp; omega)) (Nat.zero_le _) (by rfl) ?_
  simp only [AHeap.set_set, AVal.cells]
  simp (decide := true) only [aOps_nil, ev, putD, Slots.get, Slots.keep, if_true, if_false, setAt, List.set_cons_zero, List.set_cons_succ, Nat.zero_add, Nat.reduceAdd]
  repeat (with_reducible refine And.intro ?_ ?_; · first | trivial | omega | (intro hg; simp only [Bool.and_eq_true, Bool.or_eq_true, Bool.not_eq_true', Bool.and_eq_false_iff, Bool.or_eq_false_iff, Bool.not_eq_false', decide_eq_true_eq, decide_eq_false_iff_not, eqNil] at hg; omega) | (simp only [List.length_append, List.length_map, List.length_range, List.length_replicate, List.length_take, List.length_drop, List.length_cons, List.length_nil, List.length_set, List.length_reverse]; omega))
  apply hK; clear hK K
  -- region 5  law.go:35
  refine awp_rseq [1, 2, 3, 4, 5, 6, 7, 8, 10] (by rfl) fun K hK => ?_
  refine aOps_callV (V := .str (sp 6)) (by rfl) (by rfl) (c_spaces w₀ _ 6 (by decide)) ?_
  simp (decide := true) only [ev, absV, absS, putD, Slots.put, Slots.get, if_true, if_false, true_and, ↓ap_binOp, pop_binOp, isNilC_str, cond_false, pBinX_str, pS_add]
  repeat (with_reducible refine And.intro ?_ ?_; · first | trivial | omega | (intro hg; simp only [Bool.and_eq_true, Bool.or_eq_true, Bool.not_eq_true', Bool.and_eq_false_iff, Bool.or_eq_false_iff, Bool.not_eq_false', decide_eq_true_eq, decide_eq_false_iff_not, eqNil] at hg; omega) | (simp only [List.length_append, List.length_map, List.length_range, List.length_replicate, List.length_take, List.length_drop, List.length_cons, List.length_nil, List.length_set, List.length_reverse]; omega))
  refine aOps_call (by rfl) (by rfl) (c_read1 w₀ hm _ (sp 6 ++ [45, 32, 32, 32, 32, 88]) (by decide)) fun x5q2 h5q2 hx5q2 => ?_
  rw [rt5] at hx5q2
  obtain ⟨rfl, hs5⟩ := hx5q2
  have hs_h5q2 : Sub h h5q2 := Sub.trans (by repeat (first | exact Sub.refl _ | assumption | refine Sub.trans_set ?_ (by assumption))) hs5
  have hr_h5q2 : Sub h4q5 h5q2 := Sub.trans (by repeat (first | exact Sub.refl _ | assumption | refine Sub.trans_set ?_ (by assumption))) hs5
  have eb_4q9 := hs5 k4q9 _ (by repeat (first | exact AHeap.set_same _ _ _ | assumption | refine (AHeap.set_ne _ _ (by first | assumption | exact Ne.symm (by assumption))).trans ?_))
  have eb_1q6 := hs5 k1q6 _ (by repeat (first | exact AHeap.set_same _ _ _ | assumption | refine (AHeap.set_ne _ _ (by first | assumption | exact Ne.symm (by assumption))).trans ?_))
  have eb_2q9 := hs5 k2q9 _ (by repeat (first | exact AHeap.set_same _ _ _ | assumption | refine (AHeap.set_ne _ _ (by first | assumption | exact Ne.symm (by assumption))).trans ?_))
  have eb_3q9 := hs5 k3q9 _ (by repeat (first | exact AHeap.set_same _ _ _ | assumption | refine (AHeap.set_ne _ _ (by first | assumption | exact Ne.symm (by assumption))).trans ?_))
  simp (decide := true) only [ev, putD, Slots.put, Slots.get, if_true, if_false, true_and, ↓ap_move, pop_move, ↓ap_extract, pop_extract, pExt_tuple, List.getD_cons_zero, List.getD_cons_succ, List.getD_cons_zero, List.getD_cons_succ, faultA]
  repeat (with_reducible refine And.intro ?_ ?_; · first | trivial | omega | (intro hg; simp only [Bool.and_eq_true, Bool.or_eq_true, Bool.not_eq_true', Bool.and_eq_false_iff, Bool.or_eq_false_iff, Bool.not_eq_false', decide_eq_true_eq, decide_eq_false_iff_not, eqNil] at hg; omega) | (simp only [List.length_append, List.length_map, List.length_range, List.length_replicate, List.length_take, List.length_drop, List.length_cons, List.length_nil, List.length_set, List.length_reverse]; omega))
  refine aOps_alloc ze34 (cs := [.int .i64 0, .int .i64 0, .int .i64 0]) (by rfl) fun k5q6 hk5q6 => ?_
  have hn_5q6 : h5q2 k5q6 = none := by first | assumption | (simp only [AHeap.set_none] at hk5q6; simp only [hk5q6])
  have hf_5q6 : h k5q6 = none := Sub.none hs_h5q2 hn_5q6
  have ne_5q6_1q6 : k5q6 ≠ k1q6 := AHeap.ne_some hn_5q6 eb_1q6
  have ne_5q6_2q9 : k5q6 ≠ k2q9 := AHeap.ne_some hn_5q6 eb_2q9
  have ne_5q6_3q9 : k5q6 ≠ k3q9 := AHeap.ne_some hn_5q6 eb_3q9
  have ne_5q6_4q9 : k5q6 ≠ k4q9 := AHeap.ne_some hn_5q6 eb_4q9
  simp (decide := true) only [ev, putD, Slots.put, Slots.get, if_true, if_false, true_and, ↓ap_assign, pop_assign]
  repeat (with_reducible refine And.intro ?_ ?_; · first | trivial | omega | (intro hg; simp only [Bool.and_eq_true, Bool.or_eq_true, Bool.not_eq_true', Bool.and_eq_false_iff, Bool.or_eq_false_iff, Bool.not_eq_false', decide_eq_true_eq, decide_eq_false_iff_not, eqNil] at hg; omega) | (simp only [List.length_append, List.length_map, List.length_range, List.length_replicate, List.length_take, List.length_drop, List.length_cons, List.length_nil, List.length_set, List.length_reverse]; omega))
  refine aOps_store (by rfl) (by rfl) (by repeat (first | exact AHeap.set_same _ _ _ | assumption | refine (AHeap.set_ne _ _ (by first | assumption | exact Ne.symm (by assumption))).trans ?_)) sz34 (by rfl) (by rfl) (by first | exact Nat.le_refl _ | decide | (simp; done) | (simp; omega)) (Nat.zero_le _) (by rfl) ?_
  simp only [AHeap.set_set, AVal.cells]
  simp (decide := true) only [aOps_nil, ev, putD, Slots.get, Slots.keep, if_true, if_false, setAt, List.set_cons_zero, List.set_cons_succ, Nat.zero_add, Nat.reduceAdd]
  repeat (with_reducible refine And.intro ?_ ?_; · first | trivial | omega | (intro hg; simp only [Bool.and_eq_true, Bool.or_eq_true, Bool.not_eq_true', Bool.and_eq_false_iff, Bool.or_eq_false_iff, Bool.not_eq_false', decide_eq_true_eq, decide_eq_false_iff_not, eqNil] at hg; omega) | (simp only [List.length_append, List.length_map, List.length_range, List.length_replicate, List.length_take, List.length_drop, List.length_cons, List.length_nil, List.length_set, List.length_reverse]; omega))
  apply hK; clear hK K
  -- region 6  law.go:36
  refine awp_rseq [1, 2, 3, 4, 5, 6, 7, 8, 10, 12] (by rfl) fun K hK => ?_
  refine aOps_callV (V := .str (sp 11)) (by rfl) (by rfl) (c_spaces w₀ _ 11 (by decide)) ?_
  simp (decide := true) only [ev, absV, absS, putD, Slots.put, Slots.get, if_true, if_false, true_and, ↓ap_binOp, pop_binOp, isNilC_str, cond_false, pBinX_str, pS_add]
  repeat (with_reducible refine And.intro ?_ ?_; · first | trivial | omega | (intro hg; simp only [Bool.and_eq_true, Bool.or_eq_true, Bool.not_eq_true', Bool.and_eq_false_iff, Bool.or_eq_false_iff, Bool.not_eq_false', decide_eq_true_eq, decide_eq_false_iff_not, eqNil] at hg; omega) | (simp only [List.length_append, List.length_map, List.length_range, List.length_replicate, List.length_take, List.length_drop, List.length_cons, List.length_nil, List.length_set, List.length_reverse]; omega))
  refine aOps_call (by rfl) (by rfl) (c_read1 w₀ hm _ (sp 11 ++ [65, 32, 34, 66]) (by decide)) fun x6q2 h6q2 hx6q2 => ?_
  rw [rt6] at hx6q2
  obtain ⟨rfl, hs6⟩ := hx6q2
  have hs_h6q2 : Sub h h6q2 := Sub.trans (by repeat (first | exact Sub.refl _ | assumption | refine Sub.trans_set ?_ (by assumption))) hs6
  have hr_h6q2 : Sub h5q2 h6q2 := Sub.trans (by repeat (first | exact Sub.refl _ | assumption | refine Sub.trans_set ?_ (by assumption))) hs6
  have eb_5q6 := hs6 k5q6 _ (by repeat (first | exact AHeap.set_same _ _ _ | assumption | refine (AHeap.set_ne _ _ (by first | assumption | exact Ne.symm (by assumption))).trans ?_))
  have eb_1q6 := hs6 k1q6 _ (by repeat (first | exact AHeap.set_same _ _ _ | assumption | refine (AHeap.set_ne _ _ (by first | assumption | exact Ne.symm (by assumption))).trans ?_))
  have eb_2q9 := hs6 k2q9 _ (by repeat (first | exact AHeap.set_same _ _ _ | assumption | refine (AHeap.set_ne _ _ (by first | assumption | exact Ne.symm (by assumption))).trans ?_))
  have eb_3q9 := hs6 k3q9 _ (by repeat (first | exact AHeap.set_same _ _ _ | assumption | refine (AHeap.set_ne _ _ (by first | assumption | exact Ne.symm (by assumption))).trans ?_))
  have eb_4q9 := hs6 k4q9 _ (by repeat (first | exact AHeap.set_same _ _ _ | assumption | refine (AHeap.set_ne _ _ (by first | assumption | exact Ne.symm (by assumption))).trans ?_))
  simp (decide := true) only [ev, putD, Slots.put, Slots.get, if_true, if_false, true_and, ↓ap_move, pop_move, ↓ap_extract, pop_extract, pExt_tuple, List.getD_cons_zero, List.getD_cons_succ, List.getD_cons_zero, List.getD_cons_succ, faultA]
  repeat (with_reducible refine And.intro ?_ ?_; · first | trivial | omega | (intro hg; simp only [Bool.and_eq_true, Bool.or_eq_true, Bool.not_eq_true', Bool.and_eq_false_iff, Bool.or_eq_false_iff, Bool.not_eq_false', decide_eq_true_eq, decide_eq_false_iff_not, eqNil] at hg; omega) | (simp only [List.length_append, List.length_map, List.length_range, List.length_replicate, List.length_take, List.length_drop, List.length_cons, List.length_nil, List.length_set, List.length_reverse]; omega))
  refine aOps_alloc ze34 (cs := [.int .i64 0, .int .i64 0, .int .i64 0]) (by rfl) fun k6q6 hk6q6 => ?_
  have hn_6q6 : h6q2 k6q6 = none := by first | assumption | (simp only [AHeap.set_none] at hk6q6; simp only [hk6q6])
  have hf_6q6 : h k6q6 = none := Sub.none hs_h6q2 hn_6q6
  have ne_6q6_1q6 : k6q6 ≠ k1q6 := AHeap.ne_some hn_6q6 eb_1q6
  have ne_6q6_2q9 : k6q6 ≠ k2q9 := AHeap.ne_some hn_6q6 eb_2q9
  have ne_6q6_3q9 : k6q6 ≠ k3q9 := AHeap.ne_some hn_6q6 eb_3q9
  have ne_6q6_4q9 : k6q6 ≠ k4q9 := AHeap.ne_some hn_6q6 eb_4q9
  have ne_6q6_5q6 : k6q6 ≠ k5q6 := AHeap.ne_some hn_6q6 eb_5q6
  simp (decide := true) only [ev, putD, Slots.put, Slots.get, if_true, if_false, true_and, ↓ap_assign, pop_assign]
  repeat (with_reducible refine And.intro ?_ ?_; · first | trivial | omega | (intro hg; simp only [Bool.and_eq_true, Bool.or_eq_true, Bool.not_eq_true', Bool.and_eq_false_iff, Bool.or_eq_false_iff, Bool.not_eq_false', decide_eq_true_eq, decide_eq_false_iff_not, eqNil] at hg; omega) | (simp only [List.length_append, List.length_map, List.length_range, List.length_replicate, List.length_take, List.length_drop, List.length_cons, List.length_nil, List.length_set, List.length_reverse]; omega))
  refine aOps_store (by rfl) (by rfl) (by repeat (first | exact AHeap.set_same _ _ _ | assumption | refine (AHeap.set_ne _ _ (by first | assumption | exact Ne.symm (by assumption))).trans ?_)) sz34 (by rfl) (by rfl) (by first | exact Nat.le_refl _ | decide | (simp; done) | (simp; omega)) (Nat.zero_le _) (by rfl) ?_
  simp only [AHeap.set_set, AVal.cells]
  simp (decide := true) only [aOps_nil, ev, putD, Slots.get, Slots.keep, if_true, if_false, setAt, List.set_cons_zero, List.set_cons_succ, Nat.zero_add, Nat.reduceAdd]
  repeat (with_reducible refine And.intro ?_ ?_; · first | trivial | omega | (intro hg; simp only [Bool.and_eq_true, Bool.or_eq_true, Bool.not_eq_true', Bool.and_eq_false_iff, Bool.or_eq_false_iff, Bool.not_eq_false', decide_eq_true_eq, decide_eq_false_iff_not, eqNil] at hg; omega) | (simp only [List.length_append, List.length_map, List.length_range, List.length_replicate, List.length_take, List.length_drop, List.length_cons, List.length_nil, List.length_set, List.length_reverse]; omega))
  apply hK; clear hK K
  -- region 7  law.go:37
  refine awp_rseq [1, 2, 3, 4, 5, 6, 7, 8, 10, 12, 13] (by rfl) fun K hK => ?_
  simp (decide := true) only [ev, absV, absS, putD, Slots.put, Slots.get, if_false, true_and, ↓ap_build, ↓pop_buildL, bld34_, evP, List.map_nil]
  repeat (with_reducible refine And.intro ?_ ?_; · first | trivial | omega | (intro hg; simp only [Bool.and_eq_true, Bool.or_eq_true, Bool.not_eq_true', Bool.and_eq_false_iff, Bool.or_eq_false_iff, Bool.not_eq_false', decide_eq_true_eq, decide_eq_false_iff_not, eqNil] at hg; omega) | (simp only [List.length_append, List.length_map, List.length_range, List.length_replicate, List.length_take, List.length_drop, List.length_cons, List.length_nil, List.length_set, List.length_reverse]; omega))
  refine aOps_alloc ze34 (cs := [.int .i64 0, .int .i64 0, .int .i64 0]) (by rfl) fun k7q1 hk7q1 => ?_
  have ne_7q1_6q6 : k7q1 ≠ k6q6 := by simp only [AHeap.set_none] at hk7q1; simp only [hk7q1, ne_eq, not_false_eq_true]
  have hn_7q1 : h6q2 k7q1 = none := by first | assumption | (simp only [AHeap.set_none] at hk7q1; simp only [hk7q1])
  have hf_7q1 : h k7q1 = none := Sub.none hs_h6q2 hn_7q1
  have ne_7q1_1q6 : k7q1 ≠ k1q6 := AHeap.ne_some hn_7q1 eb_1q6
  have ne_7q1_2q9 : k7q1 ≠ k2q9 := AHeap.ne_some hn_7q1 eb_2q9
  have ne_7q1_3q9 : k7q1 ≠ k3q9 := AHeap.ne_some hn_7q1 eb_3q9
  have ne_7q1_4q9 : k7q1 ≠ k4q9 := AHeap.ne_some hn_7q1 eb_4q9
  have ne_7q1_5q6 : k7q1 ≠ k5q6 := AHeap.ne_some hn_7q1 eb_5q6
  refine aOps_store (by rfl) (by rfl) (by repeat (first | exact AHeap.set_same _ _ _ | assumption | refine (AHeap.set_ne _ _ (by first | assumption | exact Ne.symm (by assumption))).trans ?_)) sz34 (by rfl) (by rfl) (by first | exact Nat.le_refl _ | decide | (simp; done) | (simp; omega)) (Nat.zero_le _) (by rfl) ?_
  simp only [AHeap.set_set, AVal.cells]
  simp (decide := true) only [aOps_nil, ev, putD, Slots.put, Slots.get, Slots.keep, if_true, if_false, setAt, List.set_cons_zero, List.set_cons_succ, Nat.zero_add, Nat.reduceAdd]
  repeat (with_reducible refine And.intro ?_ ?_; · first | trivial | omega | (intro hg; simp only [Bool.and_eq_true, Bool.or_eq_true, Bool.not_eq_true', Bool.and_eq_false_iff, Bool.or_eq_false_iff, Bool.not_eq_false', decide_eq_true_eq, decide_eq_false_iff_not, eqNil] at hg; omega) | (simp only [List.length_append, List.length_map, List.length_range, List.length_replicate, List.length_take, List.length_drop, List.length_cons, List.length_nil, List.length_set, List.length_reverse]; omega))
  apply hK; clear hK K
  refine awp_seq ?_
  -- region 8  law.go:38
  refine awp_rseq [112] (by rfl) fun K hK => ?_
  simp (decide := true) only [ev, absV, absS, putD, Slots.put, Slots.get, if_true, if_false, true_and, ↓ap_loadL, apL_mk, pLoad_agg ag34 sz34, ↓ap_binOp, pop_binOp, isNilC_tmp, cond_false, pBinX_agg, ne34, ↓ap_move, pop_move, ↓ag_loadL, agQL_some, agL_mk, agP, agQ_some, nthDst, gKnown_bool, guardB_bool_false, implies_true, decide_true, Bool.not_false, Bool.not_true, condV_true, Bool.and_true, ↓ag_binOp, ↓ap_pick, pop_pick, pPick_bool, pickV_and, ↓ag_move, isNilC_str, pBinX_str, pS_neq, rd_ne', ne_eq, not_false_eq_true, ne_6q6_1q6.symm, ne_6q6_2q9.symm, ne_6q6_3q9.symm, ne_6q6_4q9.symm, ne_7q1_1q6.symm, ne_7q1_2q9.symm, ne_7q1_3q9.symm, ne_7q1_4q9.symm, rd_own w₀ eb_1q6, rd_own w₀ eb_2q9, rd_own w₀ eb_3q9, rd_own w₀ eb_4q9, rd_any, cellsAt, List.getD_cons_zero, List.getD_cons_succ, Nat.zero_add, Nat.reduceAdd, lv_int, allLive, Bool.and_true]
  repeat (with_reducible refine And.intro ?_ ?_; · first | trivial | omega | (intro hg; simp only [Bool.and_eq_true, Bool.or_eq_true, Bool.not_eq_true', Bool.and_eq_false_iff, Bool.or_eq_false_iff, Bool.not_eq_false', decide_eq_true_eq, decide_eq_false_iff_not, eqNil] at hg; omega) | (simp only [List.length_append, List.length_map, List.length_range, List.length_replicate, List.length_take, List.length_drop, List.length_cons, List.length_nil, List.length_set, List.length_reverse]; omega))
  first
  | (refine aOps_yes (by rfl) ?_; refine aOps_callV (V := .str (sp 57)) (by rfl) (by rfl) (c_spaces w₀ _ 57 (by decide)) ?_)
  | (refine aOps_gcall (V := .str (sp 57)) (f := _) (cap := _) (xs := _) rfl (fun hg => ⟨rfl, ?_⟩) (fun hg => c_spaces w₀ _ 57 (by decide)) ?_; · (simp (decide := true) only [gv, nthDst, Slots.get, if_true, if_false, guardB_bool_true, guardB_bool_false, guardB_cond, Bool.not_not] at hg; simp (decide := true) only [evs, ev, Slots.get, if_true, if_false, hg, condV_true, List.append_nil, List.map_cons, List.map_nil, absV, absS] <;> try rfl))
  simp (decide := true) only [aOps_nil, ev, absV, absS, putD, Slots.put, Slots.get, Slots.keep, if_true, if_false, true_and, nthDst, guardB_bool_false, ↓ag_binOp, pop_binOp, agP, agQ_some, gKnown_bool, implies_true, decide_true, Bool.not_false, Bool.not_true, condV_true, Bool.and_true, isNilC_tmp, cond_false, pBinX_str, pS_add, isNilC_str, pS_neq, ↓ap_pick, pop_pick, pPick_bool, pickV_and, ↓ap_move, pop_move, ↓ag_move, ↓ag_loadL, agQL_some, agL_mk, pLoad_agg ag34 sz34, ↓ag_build, ↓pop_buildL, bld32_0_1, evP, List.map_cons, List.map_nil, bld34_0_1, pBinX_agg, ne34, rd_ne', ne_eq, not_false_eq_true, ne_6q6_5q6.symm, ne_7q1_6q6.symm, ne_7q1_5q6.symm, rd_own w₀ eb_5q6, rd_any, cellsAt, List.getD_cons_zero, List.getD_cons_succ, Nat.zero_add, Nat.reduceAdd, lv_int, allLive, Bool.and_true]
  repeat (with_reducible refine And.intro ?_ ?_; · first | trivial | omega | (intro hg; simp only [Bool.and_eq_true, Bool.or_eq_true, Bool.not_eq_true', Bool.and_eq_false_iff, Bool.or_eq_false_iff, Bool.not_eq_false', decide_eq_true_eq, decide_eq_false_iff_not, eqNil] at hg; omega) | (simp only [List.length_append, List.length_map, List.length_range, List.length_replicate, List.length_take, List.length_drop, List.length_cons, List.length_nil, List.length_set, List.length_reverse]; omega))
  apply hK; clear hK K
  refine awp_cond (b := _) rfl (fun hb1 => ?_) (fun hb1 => ?_)
  · exact absurd hb1 (by decide)
  · try simp only at hb1
    refine awp_skip ?_
    change Awp _ _ _ _ _ _ _
    -- region 10  law.go:41
    refine awp_rseq [14, 15] (by rfl) fun K hK => ?_
    simp (decide := true) only [ev, absV, absS, putD, Slots.put, Slots.get, if_false, true_and, ↓ap_build, ↓pop_buildL, bld27_1, evP, List.map_cons, List.map_nil]
    repeat (with_reducible refine And.intro ?_ ?_; · first | trivial | omega | (intro hg; simp only [Bool.and_eq_true, Bool.or_eq_true, Bool.not_eq_true', Bool.and_eq_false_iff, Bool.or_eq_false_iff, Bool.not_eq_false', decide_eq_true_eq, decide_eq_false_iff_not, eqNil] at hg; omega) | (simp only [List.length_append, List.length_map, List.length_range, List.length_replicate, List.length_take, List.length_drop, List.length_cons, List.length_nil, List.length_set, List.length_reverse]; omega))
    refine aOps_buildSlice (cs := [.bool false, .str [83, 84, 79, 80, 32, 82, 85, 78, 46]]) (by kernel_rfl) fun k10q1 hk10q1 => ?_
    have ne_10q1_6q6 : k10q1 ≠ k6q6 := by simp only [AHeap.set_none] at hk10q1; simp only [hk10q1, ne_eq, not_false_eq_true]
    have ne_10q1_7q1 : k10q1 ≠ k7q1 := by simp only [AHeap.set_none] at hk10q1; simp only [hk10q1, ne_eq, not_false_eq_true]
    have hn_10q1 : h6q2 k10q1 = none := by first | assumption | (simp only [AHeap.set_none] at hk10q1; simp only [hk10q1])
    have hf_10q1 : h k10q1 = none := Sub.none hs_h6q2 hn_10q1
    have ne_10q1_1q6 : k10q1 ≠ k1q6 := AHeap.ne_some hn_10q1 eb_1q6
    have ne_10q1_2q9 : k10q1 ≠ k2q9 := AHeap.ne_some hn_10q1 eb_2q9
    have ne_10q1_3q9 : k10q1 ≠ k3q9 := AHeap.ne_some hn_10q1 eb_3q9
    have ne_10q1_4q9 : k10q1 ≠ k4q9 := AHeap.ne_some hn_10q1 eb_4q9
    have ne_10q1_5q6 : k10q1 ≠ k5q6 := AHeap.ne_some hn_10q1 eb_5q6
    refine aOps_call (by rfl) (by rfl) (c_Write w₀ ht10 _ [(false, [83, 84, 79, 80, 32, 82, 85, 78, 46])] (.own k10q1) 0 (.exact 1) (isLines (ls := [(false, [83, 84, 79, 80, 32, 82, 85, 78, 46])]) (AHeap.set_same _ _ _) _ rfl) (by decide) (by decide)) fun x10q2 h10q2 hx10q2 => ?_
    rw [wr1] at hx10q2
    obtain ⟨rfl, hs10⟩ := hx10q2
    have hs_h10q2 : Sub h h10q2 := Sub.trans (by repeat (first | exact Sub.refl _ | assumption | refine Sub.trans_set ?_ (by assumption))) hs10
    have hr_h10q2 : Sub h6q2 h10q2 := Sub.trans (by repeat (first | exact Sub.refl _ | assumption | refine Sub.trans_set ?_ (by assumption))) hs10
    have eb_6q6 := hs10 k6q6 _ (by repeat (first | exact AHeap.set_same _ _ _ | assumption | refine (AHeap.set_ne _ _ (by first | assumption | exact Ne.symm (by assumption))).trans ?_))
    have eb_7q1 := hs10 k7q1 _ (by repeat (first | exact AHeap.set_same _ _ _ | assumption | refine (AHeap.set_ne _ _ (by first | assumption | exact Ne.symm (by assumption))).trans ?_))
    have eb_10q1 := hs10 k10q1 _ (by repeat (first | exact AHeap.set_same _ _ _ | assumption | refine (AHeap.set_ne _ _ (by first | assumption | exact Ne.symm (by assumption))).trans ?_))
    have eb_1q6 := hs10 k1q6 _ (by repeat (first | exact AHeap.set_same _ _ _ | assumption | refine (AHeap.set_ne _ _ (by first | assumption | exact Ne.symm (by assumption))).trans ?_))
    have eb_2q9 := hs10 k2q9 _ (by repeat (first | exact AHeap.set_same _ _ _ | assumption | refine (AHeap.set_ne _ _ (by first | assumption | exact Ne.symm (by assumption))).trans ?_))
    have eb_3q9 := hs10 k3q9 _ (by repeat (first | exact AHeap.set_same _ _ _ | assumption | refine (AHeap.set_ne _ _ (by first | assumption | exact Ne.symm (by assumption))).trans ?_))
    have eb_4q9 := hs10 k4q9 _ (by repeat (first | exact AHeap.set_same _ _ _ | assumption | refine (AHeap.set_ne _ _ (by first | assumption | exact Ne.symm (by assumption))).trans ?_))
    have eb_5q6 := hs10 k5q6 _ (by repeat (first | exact AHeap.set_same _ _ _ | assumption | refine (AHeap.set_ne _ _ (by first | assumption | exact Ne.symm (by assumption))).trans ?_))
    simp (decide := true) only [aOps_nil, ev, putD, Slots.put, Slots.get, Slots.keep, if_true, if_false, true_and, ↓ap_move, pop_move, ↓ap_extract, pop_extract, pExt_tuple, List.getD_cons_zero, List.getD_cons_succ, ↓ap_assign, pop_assign, List.getD_cons_zero, List.getD_cons_succ]
    repeat (with_reducible refine And.intro ?_ ?_; · first | trivial | omega | (intro hg; simp only [Bool.and_eq_true, Bool.or_eq_true, Bool.not_eq_true', Bool.and_eq_false_iff, Bool.or_eq_false_iff, Bool.not_eq_false', decide_eq_true_eq, decide_eq_false_iff_not, eqNil] at hg; omega) | (simp only [List.length_append, List.length_map, List.length_range, List.length_replicate, List.length_take, List.length_drop, List.length_cons, List.length_nil, List.length_set, List.length_reverse]; omega))
    apply hK; clear hK K
    -- region 11  law.go:42
    refine awp_rseq [14, 15, 16, 17] (by rfl) fun K hK => ?_
    simp (decide := true) only [ev, absV, absS, putD, Slots.put, Slots.get, if_false, true_and, ↓ap_build, ↓pop_buildL, bld27_0_1, evP, List.map_cons, List.map_nil]
    repeat (with_reducible refine And.intro ?_ ?_; · first | trivial | omega | (intro hg; simp only [Bool.and_eq_true, Bool.or_eq_true, Bool.not_eq_true', Bool.and_eq_false_iff, Bool.or_eq_false_iff, Bool.not_eq_false', decide_eq_true_eq, decide_eq_false_iff_not, eqNil] at hg; omega) | (simp only [List.length_append, List.length_map, List.length_range, List.length_replicate, List.length_take, List.length_drop, List.length_cons, List.length_nil, List.length_set, List.length_reverse]; omega))
    refine aOps_buildSlice (cs := [.bool true, .str [83, 84, 79, 80, 32, 82, 85, 78, 46]]) (by kernel_rfl) fun k11q1 hk11q1 => ?_
    have hn_11q1 : h10q2 k11q1 = none := by first | assumption | (simp only [AHeap.set_none] at hk11q1; simp only [hk11q1])
    have hf_11q1 : h k11q1 = none := Sub.none hs_h10q2 hn_11q1
    have ne_11q1_1q6 : k11q1 ≠ k1q6 := AHeap.ne_some hn_11q1 eb_1q6
    have ne_11q1_2q9 : k11q1 ≠ k2q9 := AHeap.ne_some hn_11q1 eb_2q9
    have ne_11q1_3q9 : k11q1 ≠ k3q9 := AHeap.ne_some hn_11q1 eb_3q9
    have ne_11q1_4q9 : k11q1 ≠ k4q9 := AHeap.ne_some hn_11q1 eb_4q9
    have ne_11q1_5q6 : k11q1 ≠ k5q6 := AHeap.ne_some hn_11q1 eb_5q6
    have ne_11q1_6q6 : k11q1 ≠ k6q6 := AHeap.ne_some hn_11q1 eb_6q6
    have ne_11q1_7q1 : k11q1 ≠ k7q1 := AHeap.ne_some hn_11q1 eb_7q1
    have ne_11q1_10q1 : k11q1 ≠ k10q1 := AHeap.ne_some hn_11q1 eb_10q1
    refine aOps_call (by rfl) (by rfl) (c_Write w₀ ht10 _ [(true, [83, 84, 79, 80, 32, 82, 85, 78, 46])] (.own k11q1) 0 (.exact 1) (isLines (ls := [(true, [83, 84, 79, 80, 32, 82, 85, 78, 46])]) (AHeap.set_same _ _ _) _ rfl) (by decide) (by decide)) fun x11q2 h11q2 hx11q2 => ?_
    rw [wr2] at hx11q2
    obtain ⟨rfl, hs11⟩ := hx11q2
    have hs_h11q2 : Sub h h11q2 := Sub.trans (by repeat (first | exact Sub.refl _ | assumption | refine Sub.trans_set ?_ (by assumption))) hs11
    have hr_h11q2 : Sub h10q2 h11q2 := Sub.trans (by repeat (first | exact Sub.refl _ | assumption | refine Sub.trans_set ?_ (by assumption))) hs11
    have eb_11q1 := hs11 k11q1 _ (by repeat (first | exact AHeap.set_same _ _ _ | assumption | refine (AHeap.set_ne _ _ (by first | assumption | exact Ne.symm (by assumption))).trans ?_))
    have eb_1q6 := hs11 k1q6 _ (by repeat (first | exact AHeap.set_same _ _ _ | assumption | refine (AHeap.set_ne _ _ (by first | assumption | exact Ne.symm (by assumption))).trans ?_))
    have eb_2q9 := hs11 k2q9 _ (by repeat (first | exact AHeap.set_same _ _ _ | assumption | refine (AHeap.set_ne _ _ (by first | assumption | exact Ne.symm (by assumption))).trans ?_))
    have eb_3q9 := hs11 k3q9 _ (by repeat (first | exact AHeap.set_same _ _ _ | assumption | refine (AHeap.set_ne _ _ (by first | assumption | exact Ne.symm (by assumption))).trans ?_))
    have eb_4q9 := hs11 k4q9 _ (by repeat (first | exact AHeap.set_same _ _ _ | assumption | refine (AHeap.set_ne _ _ (by first | assumption | exact Ne.symm (by assumption))).trans ?_))
    have eb_5q6 := hs11 k5q6 _ (by repeat (first | exact AHeap.set_same _ _ _ | assumption | refine (AHeap.set_ne _ _ (by first | assumption | exact Ne.symm (by assumption))).trans ?_))
    have eb_6q6 := hs11 k6q6 _ (by repeat (first | exact AHeap.set_same _ _ _ | assumption | refine (AHeap.set_ne _ _ (by first | assumption | exact Ne.symm (by assumption))).trans ?_))
    have eb_7q1 := hs11 k7q1 _ (by repeat (first | exact AHeap.set_same _ _ _ | assumption | refine (AHeap.set_ne _ _ (by first | assumption | exact Ne.symm (by assumption))).trans ?_))
    have eb_10q1 := hs11 k10q1 _ (by repeat (first | exact AHeap.set_same _ _ _ | assumption | refine (AHeap.set_ne _ _ (by first | assumption | exact Ne.symm (by assumption))).trans ?_))
    simp (decide := true) only [aOps_nil, ev, putD, Slots.put, Slots.get, Slots.keep, if_true, if_false, true_and, ↓ap_move, pop_move, ↓ap_extract, pop_extract, pExt_tuple, List.getD_cons_zero, List.getD_cons_succ, ↓ap_assign, pop_assign, List.getD_cons_zero, List.getD_cons_succ]
    repeat (with_reducible refine And.intro ?_ ?_; · first | trivial | omega | (intro hg; simp only [Bool.and_eq_true, Bool.or_eq_true, Bool.not_eq_true', Bool.and_eq_false_iff, Bool.or_eq_false_iff, Bool.not_eq_false', decide_eq_true_eq, decide_eq_false_iff_not, eqNil] at hg; omega) | (simp only [List.length_append, List.length_map, List.length_range, List.length_replicate, List.length_take, List.length_drop, List.length_cons, List.length_nil, List.length_set, List.length_reverse]; omega))
    apply hK; clear hK K
    -- region 12  law.go:43
    refine awp_rseq [0] (by rfl) fun K hK => ?_
    simp (decide := true) only [aOps_nil, ev, absV, absS, putD, Slots.put, Slots.get, Slots.keep, if_true, if_false, true_and, ↓ap_move, pop_move, ↓ap_binOp, pop_binOp, isNilC_int, cond_false, pBinX_int, pI_eql, ↓ag_move, agP, agQ_some, nthDst, guardB_bool_true, decide_true, condV_true, Bool.and_true, ↓ag_binOp, ↓ap_pick, pop_pick, pPick_bool, pickV_and, isNilC_str, pBinX_str, pS_eql, ↓ap_assign, pop_assign, Bool.and_true]
    repeat (with_reducible refine And.intro ?_ ?_; · first | trivial | omega | (intro hg; simp only [Bool.and_eq_true, Bool.or_eq_true, Bool.not_eq_true', Bool.and_eq_false_iff, Bool.or_eq_false_iff, Bool.not_eq_false', decide_eq_true_eq, decide_eq_false_iff_not, eqNil] at hg; omega) | (simp only [List.length_append, List.length_map, List.length_range, List.length_replicate, List.length_take, List.length_drop, List.length_cons, List.length_nil, List.length_set, List.length_reverse]; omega))
    apply hK; clear hK K
    refine awp_ret ?_
    try simp only [thenA_ret, inBlockA_ret]
    refine retA_ret h (by repeat (first | exact Sub.refl _ | assumption | refine Sub.trans_set ?_ (by assumption))) (resPre_tmp (resPre_nil)) ?_
    simp (decide := true) only [Slots.get, if_true, and_true, resOf_one]
    all_goals first | rfl | exact ⟨rfl, rfl⟩ | (simp (decide := true) only [if_true, if_false, *]; done) | (trace_state; fail)
end Go.Proofs.YtikpnhdjjabdmaaDoor

/-
  The statement ColumnsLayout, walked.
  Conditions: none.
-/
namespace Go.Proofs.YtikpnhdjjabdmaaDoor
open Go.AM
open Go.Proofs
open Go.Col
set_option maxRecDepth 100000

end Go.Proofs.YtikpnhdjjabdmaaDoor

/-
  Plain law: where the bytes of the cards that Read answers stand in the source text.
  Conditions: none.
-/
namespace Go.Proofs.YtikpnhdjjabdmaaDoor
open Go.AM
open Go.Proofs
open Go.Col
set_option maxRecDepth 100000

/-- A part of a card: where it begins, its bytes. -/
structure PartC where
  line : Int
  col : Int
  str : Str
def partsText : List PartC → Str
  | [] => []
  | p :: ps => p.str ++ partsText ps
def marksFrom : Nat → List PartC → List MarkC
  | _, [] => []
  | n, p :: ps => ⟨n, p.line, p.col⟩ :: marksFrom (n + p.str.length) ps
def posAt : List PartC → Nat → Int × Int
  | [], _ => (0, 0)
  | [p], i => (p.line, p.col + i)
  | p :: q :: ps, i => if i < p.str.length then (p.line, p.col + i) else posAt (q :: ps) (i - p.str.length)
/-- The byte at a place of the source text, lines padded to 72 columns. -/
def byteAt (L : List Str) (line col : Int) : UInt8 := (padE (L.getD (line.toNat - 1) [])).getD (col.toNat - 1) 0
structure PartOk (L : List Str) (p : PartC) : Prop where
  ne : 0 < p.str.length
  low : 1 ≤ p.line
  high : p.line ≤ L.length
  col : 8 ≤ p.col
  fit : p.col + p.str.length ≤ 73
  byte : ∀ j : Nat, j < p.str.length → p.str.getD j 0 = byteAt L p.line (p.col + j)
def Asc (ps : List PartC) : Prop := ps.Pairwise fun p q => p.line < q.line

theorem getD_l {α : Type} {a b : List α} {d : α} {i : Nat} (h : i < a.length) : (a ++ b).getD i d = a.getD i d := by
  simp only [List.getD, List.getElem?_append_left h]
theorem getD_r {α : Type} {a b : List α} {d : α} {i : Nat} (h : a.length ≤ i) : (a ++ b).getD i d = b.getD (i - a.length) d := by
  simp only [List.getD, List.getElem?_append_right h]
theorem marksFrom_above : ∀ (ps : List PartC) (n : Nat), ∀ m ∈ marksFrom n ps, (n : Int) ≤ m.frm
  | [], n, m, h => by cases h
  | p :: ps, n, m, h => by
    rcases List.mem_cons.1 h with rfl | h
    · exact Int.le_refl _
    · have := marksFrom_above ps _ m h
      omega
theorem atGo_above {i : Int} : ∀ (ms : List MarkC) (p : Int × Int), (∀ m ∈ ms, i < m.frm) → atGo i ms p = p
  | [], p, _ => rfl
  | m :: ms, p, h => by
    rw [atGo, if_neg (by have := h m (by simp); omega)]
    exact atGo_above ms p fun x hx => h x (by simp [hx])
theorem at_parts : ∀ (ps : List PartC) (n i : Nat) (p0 : Int × Int), ps ≠ [] → atGo ((n + i : Nat) : Int) (marksFrom n ps) p0 = posAt ps i
  | [], _, _, _, h => absurd rfl h
  | [p], n, i, p0, _ => by
    show (if ((n : Int)) ≤ ((n + i : Nat) : Int) then (p.line, p.col + ((n + i : Nat) : Int) - (n : Int)) else p0) = (p.line, p.col + (i : Int))
    rw [if_pos (by omega)]
    congr 1
    omega
  | p :: q :: ps, n, i, p0, _ => by
    rw [marksFrom, atGo, if_pos (show ((n : Nat) : Int) ≤ ((n + i : Nat) : Int) by omega), posAt]
    by_cases hi : i < p.str.length
    · rw [if_pos hi, atGo_above _ _ (fun m hm => by have := marksFrom_above _ _ m hm; omega)]
      show (p.line, p.col + ((n + i : Nat) : Int) - (n : Int)) = _
      congr 1
      omega
    · rw [if_neg hi, show n + i = (n + p.str.length) + (i - p.str.length) by omega]
      exact at_parts (q :: ps) (n + p.str.length) (i - p.str.length) _ (by simp)
theorem valid_parts (c : CardC) {L : List Str} : ∀ (ps : List PartC) (n : Nat) (b : Int), b < n → n + (partsText ps).length ≤ c.text.length → (∀ p ∈ ps, PartOk L p) → validC.go c b (marksFrom n ps) = true
  | [], _, _, _, _, _ => rfl
  | p :: ps, n, b, hb, hn, hp => by
    have h := hp p (by simp)
    have h1 := h.ne
    have h2 := h.low
    have h3 := h.col
    have h4 := h.fit
    simp only [partsText, List.length_append] at hn
    rw [marksFrom, validC.go, Bool.and_eq_true]
    refine ⟨decide_eq_true ⟨hb, by simp only; omega, h2, h3, by simp only; omega⟩, ?_⟩
    exact valid_parts c ps _ _ (by simp only; omega) (by omega) fun q hq => hp q (by simp [hq])
/-- A card and its parts. -/
structure CardOk (L : List Str) (c : CardC) (ps : List PartC) : Prop where
  text : c.text = partsText ps
  marks : c.marks = marksFrom 0 ps
  parts : ∀ p ∈ ps, PartOk L p
  asc : Asc ps
theorem CardOk.valid {L : List Str} {c : CardC} {ps : List PartC} (h : CardOk L c ps) (hn : ps ≠ []) : validC c = true := by
  cases ps with
  | nil => exact absurd rfl hn
  | cons p ps =>
    have hm := h.marks
    rw [validC_eq (by rw [hm, marksFrom]; simp)]
    rw [Bool.and_eq_true]
    refine ⟨?_, ?_⟩
    · rw [hm, marksFrom]; rfl
    · rw [hm]; exact valid_parts c (p :: ps) 0 (-1) (by omega) (by rw [h.text]; omega) h.parts
theorem CardOk.at {L : List Str} {c : CardC} {ps : List PartC} (h : CardOk L c ps) (hn : ps ≠ []) {k : Nat} (hk : k ≤ c.text.length) : atE c k = ((posAt ps k).1, (posAt ps k).2, 0) := by
  unfold atE
  rw [if_pos ⟨h.valid hn, by omega, by omega⟩, h.marks]
  have := at_parts ps 0 k (0, 0) hn
  rw [Nat.zero_add] at this
  rw [this]
/-- Cards with their parts, ahead of a line. -/
structure RdOk (L : List Str) (n : Nat) (x : Rd) (ys : List (CardC × List PartC)) : Prop where
  cards : x.cards = ys.map (·.1)
  ok : ∀ y ∈ ys, CardOk L y.1 y.2
  ne : ∀ y ∈ ys, y.2 ≠ []
  asc : Asc (ys.flatMap (·.2))
  low : ∀ y ∈ ys, ∀ p ∈ y.2, p.line < n
theorem RdOk.next {L : List Str} {n : Nat} {x : Rd} {ys : List (CardC × List PartC)} (h : RdOk L n x ys) : RdOk L (n + 1) x ys :=
  ⟨h.cards, h.ok, h.ne, h.asc, fun y hy p hp => by have := h.low y hy p hp; omega⟩
theorem splitNL_ne : ∀ s : Str, splitNL s ≠ []
  | [] => by simp [splitNL]
  | b :: s => by unfold splitNL; split <;> (try split) <;> simp
theorem splitNL_cat : ∀ (a b : Str), splitNL (a ++ 10 :: b) = splitNL a ++ splitNL b
  | [], b => by show splitNL (10 :: b) = [] :: splitNL b; rw [splitNL, if_pos rfl]
  | x :: a, b => by
    rw [List.cons_append, splitNL, splitNL]
    by_cases h : x = 10
    · rw [if_pos h, if_pos h, splitNL_cat a b, List.cons_append]
    · rw [if_neg h, if_neg h, splitNL_cat a b]
      cases hq : splitNL a with
      | nil => exact absurd hq (splitNL_ne a)
      | cons l ls => rfl
theorem splitNL_trim (s : Str) : splitNL (trimNL s) = splitNL s ∨ splitNL s = splitNL (trimNL s) ++ [[]] := by
  unfold trimNL
  by_cases h : s.getLast? = some 10
  · rw [if_pos h]
    refine .inr ?_
    obtain ⟨t, ht⟩ : ∃ t, s = t ++ [10] := by
      rcases List.eq_nil_or_concat s with e | ⟨t, x, e⟩
      · rw [e] at h; cases h
      · rw [List.concat_eq_append] at e
        rw [e, List.getLast?_append] at h
        cases h
        exact ⟨t, e⟩
    rw [ht, List.dropLast_concat, splitNL_cat]
    rfl
  · rw [if_neg h]; exact .inl rfl
end Go.Proofs.YtikpnhdjjabdmaaDoor

/-
  The statement ColumnsMarks, walked.
  Conditions: none.
-/
namespace Go.Proofs.YtikpnhdjjabdmaaDoor
open Go.AM
open Go.Proofs
open Go.Col
set_option maxRecDepth 100000

theorem strs_at {l : List Str} {i : Nat} (hi : i < l.length) : (l.map AVal.str).getD i .dead = .str (l.getD i []) := by
  simp [List.getD, hi]
end Go.Proofs.YtikpnhdjjabdmaaDoor

/-
  Plain law: ignored lines, the columns 1 to 6 and those from 73 on change nothing but positions.
  Conditions: none.
-/
namespace Go.Proofs.YtikpnhdjjabdmaaDoor
open Go.AM
open Go.Proofs
open Go.Col
set_option maxRecDepth 100000

def absC (c : CardC) : Bool × Str := (c.left, c.text)
/-- The same, apart from positions. -/
structure RdSim (x y : Rd) : Prop where
  cards : x.cards.map absC = y.cards.map absC
  odd : x.odd = y.odd
structure RowSim (r s : RowC) : Prop where
  more : r.more = s.more
  text : r.text = s.text
  col : r.col = s.col
def FSim (f g : FaultC) : Prop := (f = okF ∧ g = okF) ∨ (f.e = g.e ∧ f.e ≠ 0)
theorem FSim.ok {f g : FaultC} (h : FSim f g) : f = okF ↔ g = okF := by
  rcases h with ⟨h1, h2⟩ | ⟨h1, h2⟩
  · exact ⟨fun _ => h2, fun _ => h1⟩
  · refine ⟨fun e => absurd (by rw [e]; rfl) h2, fun e => absurd ?_ h2⟩
    rw [h1, e]; rfl
theorem FSim.of {a l c l' c' : Int} (h : a ≠ 0) : FSim ⟨a, l, c⟩ ⟨a, l', c'⟩ := .inr ⟨rfl, h⟩
theorem FSim.refl : FSim okF okF := .inl ⟨rfl, rfl⟩
def LineSim (dbg : Bool) (s t : Str) : Prop := ∀ n m : Int, RowSim (lineE s n dbg).1 (lineE t m dbg).1 ∧ (lineE s n dbg).2.1 = (lineE t m dbg).2.1 ∧ FSim (lineE s n dbg).2.2 (lineE t m dbg).2.2
def Skip (dbg : Bool) (s : Str) : Prop := ∀ n : Int, (lineE s n dbg).2.1 = false ∧ (lineE s n dbg).2.2 = okF

theorem addE_sim {x y : Rd} (h : RdSim x y) (l c l' c' : Int) (t : Str) (ho : x.cards ≠ []) : RdSim (addE x l c t) (addE y l' c' t) := by
  rcases List.eq_nil_or_concat x.cards with e | ⟨xs, a, e⟩
  · exact absurd e ho
  · rw [List.concat_eq_append] at e
    have hy := h.cards
    rw [e, List.map_append] at hy
    rcases List.eq_nil_or_concat y.cards with e' | ⟨ys, b, e'⟩
    · rw [e'] at hy; simp at hy
    · rw [List.concat_eq_append] at e'
      rw [e', List.map_append] at hy
      obtain ⟨h1, h2⟩ := List.append_inj' hy rfl
      simp only [List.map_cons, List.map_nil, List.cons.injEq, and_true, absC, Prod.mk.injEq] at h2
      rw [addE_last e, addE_last e']
      refine ⟨?_, by simp only [h2.2]⟩
      simp only [List.map_append, List.map_cons, List.map_nil, h1]
      unfold absC addC
      simp only [h2.1, h2.2]
theorem takeE_sim {x y : Rd} (h : RdSim x y) {r s : RowC} (hr : RowSim r s) : RdSim (takeE x r).1 (takeE y s).1 ∧ FSim (takeE x r).2 (takeE y s).2 := by
  have hc : (x.cards = []) ↔ (y.cards = []) := by
    have := congrArg List.length h.cards
    simp only [List.length_map] at this
    exact ⟨fun e => List.length_eq_zero_iff.1 (by rw [← this, e]; rfl), fun e => List.length_eq_zero_iff.1 (by rw [this, e]; rfl)⟩
  unfold takeE
  rw [← hr.more, ← h.odd, ← hr.text, ← hr.col]
  split
  · exact ⟨h, .of (by decide)⟩
  · split
    · exact ⟨addE_sim (x := ⟨x.cards ++ [⟨decide (r.col < 12), [], []⟩], x.line, x.col, x.odd⟩) (y := ⟨y.cards ++ [⟨decide (r.col < 12), [], []⟩], y.line, y.col, x.odd⟩) ⟨by simp only [List.map_append, h.cards], rfl⟩ _ _ _ _ _ (by simp), .refl⟩
    · by_cases hn : x.cards = []
      · rw [if_pos hn, if_pos (hc.1 hn)]
        exact ⟨h, .of (by decide)⟩
      · rw [if_neg hn, if_neg (fun e => hn (hc.2 e))]
        split
        · exact ⟨h, .of (by decide)⟩
        · split
          · exact ⟨addE_sim h _ _ _ _ _ hn, .refl⟩
          · exact ⟨addE_sim h _ _ _ _ _ hn, .refl⟩
/-- Lines that read alike. -/
inductive Sim (dbg : Bool) : List Str → List Str → Prop
  | nil : Sim dbg [] []
  | cons {s t : Str} {l k : List Str} : LineSim dbg s t → Sim dbg l k → Sim dbg (s :: l) (t :: k)
  | skip {t : Str} {l k : List Str} : Skip dbg t → Sim dbg l k → Sim dbg l (t :: k)
theorem readL_sim {dbg : Bool} {l k : List Str} (hs : Sim dbg l k) : ∀ {x y : Rd} (n m : Int), RdSim x y → RdSim (readL dbg l n x).1 (readL dbg k m y).1 ∧ FSim (readL dbg l n x).2 (readL dbg k m y).2 := by
  induction hs with
  | nil => intro x y n m h; exact ⟨h, .refl⟩
  | @skip t l k ht _ ih =>
    intro x y n m h
    cases hp : lineE t m dbg with
    | mk r q =>
      obtain ⟨cn, f⟩ := q
      obtain ⟨h1, h2⟩ := ht m
      rw [hp] at h1 h2
      simp only at h1 h2
      subst h1 h2
      rw [readL_skip hp rfl]
      exact ih n (m + 1) h
  | @cons s t l k hst _ ih =>
    intro x y n m h
    obtain ⟨h1, h2, h3⟩ := hst n m
    cases hp : lineE s n dbg with
    | mk r q =>
      obtain ⟨cn, f⟩ := q
      cases hp' : lineE t m dbg with
      | mk r' q' =>
        obtain ⟨cn', f'⟩ := q'
        rw [hp, hp'] at h1 h2 h3
        simp only at h1 h2 h3
        subst h2
        by_cases hf : f = okF
        · have hf' := h3.ok.1 hf
          cases cn with
          | false =>
            rw [readL_skip hp hf, readL_skip hp' hf']
            exact ih _ _ h
          | true =>
            obtain ⟨t1, t2⟩ := takeE_sim h h1
            by_cases hg : (takeE x r).2 = okF
            · rw [readL_take hp hf hg, readL_take hp' hf' (t2.ok.1 hg)]
              exact ih _ _ t1
            · rw [readL_bad hp hf hg, readL_bad hp' hf' (fun e => hg (t2.ok.2 e))]
              exact ⟨t1, t2⟩
        · rw [readL_fault hp hf, readL_fault hp' (fun e => hf (h3.ok.2 e))]
          exact ⟨h, h3⟩
theorem readL_last {dbg : Bool} {t : Str} (ht : Skip dbg t) : ∀ (l : List Str) (n : Int) (x : Rd), readL dbg (l ++ [t]) n x = readL dbg l n x
  | [], n, x => by
    cases hp : lineE t n dbg with
    | mk r q =>
      obtain ⟨cn, f⟩ := q
      obtain ⟨h1, h2⟩ := ht n
      rw [hp] at h1 h2
      simp only at h1 h2
      subst h1 h2
      rw [List.nil_append, readL_skip hp rfl]
      rfl
  | s :: l, n, x => by
    rw [List.cons_append, readL, readL]
    cases lineE s n dbg with
    | mk r q =>
      obtain ⟨cn, f⟩ := q
      simp only [readL_last ht l]
theorem skip_of {dbg : Bool} {s : Str} (h : ¬ 80 < s.length) (hb : badAt s = none) (hk : ((padE s).getD 6 0 = 42 ∨ (padE s).getD 6 0 = 47) ∨ (((padE s).getD 6 0 = 68 ∨ (padE s).getD 6 0 = 100) ∧ dbg = false) ∨ (((padE s).getD 6 0 = 32 ∨ (padE s).getD 6 0 = 45) ∧ trimL (((padE s).drop 7).take 65) = [])) : Skip dbg s := by
  intro n
  rw [lineE_none h hb]
  have ht : (rowE s n).text = trimL (((padE s).drop 7).take 65) := rfl
  rw [ht]
  rcases hk with hk | hk | hk
  · rw [if_pos hk]; exact ⟨rfl, rfl⟩
  · by_cases h1 : (padE s).getD 6 0 = 42 ∨ (padE s).getD 6 0 = 47
    · rw [if_pos h1]; exact ⟨rfl, rfl⟩
    · rw [if_neg h1, if_pos hk.1]
      exact ⟨by rw [hk.2]; rfl, rfl⟩
  · have h1 : ¬ ((padE s).getD 6 0 = 42 ∨ (padE s).getD 6 0 = 47) := by rcases hk.1 with e | e <;> rw [e] <;> decide
    have h2 : ¬ ((padE s).getD 6 0 = 68 ∨ (padE s).getD 6 0 = 100) := by rcases hk.1 with e | e <;> rw [e] <;> decide
    rw [if_neg h1, if_neg h2, if_pos hk.1, hk.2]
    exact ⟨rfl, rfl⟩
/-- The lines that are inserted. -/
def moreL : List Str := [[], [32, 32, 32, 32, 32, 32, 42, 34], [32, 32, 32, 32, 32, 32, 47, 97, 110, 121, 116, 104, 105, 110, 103], [32, 32, 32, 32, 32, 32, 68, 32, 32, 32, 32, 88], [32, 32, 32, 32, 32, 32, 100, 88], sp 80, [49, 50, 51, 52, 53, 54], [32, 32, 32, 32, 32, 32, 45]]
theorem more_skip : ∀ i, i < 8 → Skip false (moreL.getD i [])
  | 0, _ => skip_of (by decide) (by decide) (by decide)
  | 1, _ => skip_of (by decide) (by decide) (by decide)
  | 2, _ => skip_of (by decide) (by decide) (by decide)
  | 3, _ => skip_of (by decide) (by decide) (by decide)
  | 4, _ => skip_of (by decide) (by decide) (by decide)
  | 5, _ => skip_of (by decide) (by decide) (by decide)
  | 6, _ => skip_of (by decide) (by decide) (by decide)
  | 7, _ => skip_of (by decide) (by decide) (by decide)
  | n + 8, h => by omega
theorem nil_skip : Skip false [] := more_skip 0 (by decide)
theorem lineSim_of {dbg : Bool} {s t : Str} (h80 : ¬ 80 < s.length) (h80' : ¬ 80 < t.length) (hb : badAt s = none ↔ badAt t = none) (h6 : (padE s).getD 6 0 = (padE t).getD 6 0) (h7 : ((padE s).drop 7).take 65 = ((padE t).drop 7).take 65) : LineSim dbg s t := by
  intro n m
  cases hs : badAt s with
  | some i =>
    have ht : ∃ j, badAt t = some j := by
      cases ht : badAt t with
      | some j => exact ⟨j, rfl⟩
      | none => rw [hb.2 ht] at hs; cases hs
    obtain ⟨j, ht⟩ := ht
    have e1 : lineE s n dbg = (noRow, false, ⟨4, n, (i : Int) + 1⟩) := by unfold lineE; rw [if_neg h80, hs]
    have e2 : lineE t m dbg = (noRow, false, ⟨4, m, (j : Int) + 1⟩) := by unfold lineE; rw [if_neg h80', ht]
    rw [e1, e2]
    exact ⟨⟨rfl, rfl, rfl⟩, rfl, .of (by decide)⟩
  | none =>
    rw [lineE_none h80 hs, lineE_none h80' (hb.1 hs), ← h6]
    have hr : RowSim (rowE s n) (rowE t m) := by
      unfold rowE
      rw [h6, h7]
      exact ⟨rfl, rfl, rfl⟩
    have htx := hr.text
    split
    · exact ⟨hr, rfl, .refl⟩
    · split
      · exact ⟨hr, by simp only [htx], .refl⟩
      · split
        · exact ⟨hr, by simp only [htx], .refl⟩
        · exact ⟨hr, rfl, .of (by decide)⟩
theorem lineSim_refl (dbg : Bool) (s : Str) : LineSim dbg s s := by
  by_cases h80 : 80 < s.length
  · intro n m
    have e1 : lineE s n dbg = (noRow, false, ⟨5, n, 81⟩) := by unfold lineE; rw [if_pos h80]
    have e2 : lineE s m dbg = (noRow, false, ⟨5, m, 81⟩) := by unfold lineE; rw [if_pos h80]
    rw [e1, e2]
    exact ⟨⟨rfl, rfl, rfl⟩, rfl, .of (by decide)⟩
  · exact lineSim_of h80 h80 Iff.rfl rfl rfl
/-- A line with other columns 1 to 6 and from 73 on. -/
def editE (edge s : Str) : Str := if 7 ≤ s.length ∧ s.length ≤ 72 ∧ (s.take 6).all okB = true ∧ edge.all okB = true then (edge ++ sp 6).take 6 ++ s.drop 6 ++ sp (72 - s.length) ++ edge else s
theorem bad_none (s : Str) : badAt s = none ↔ s.all okB = true := by
  unfold badAt
  rw [List.findIdx?_eq_none_iff, List.all_eq_true]
  simp only [Bool.not_eq_eq_eq_not, Bool.not_false]
theorem sp_all (n : Nat) : (sp n).all okB = true := by
  unfold sp
  rw [List.all_eq_true]
  intro b hb
  rw [(List.mem_replicate.1 hb).2]
  decide
theorem edit_sim (dbg : Bool) {edge : Str} (he : edge.length ≤ 6) (s : Str) : LineSim dbg s (editE edge s) := by
  unfold editE
  split
  · rename_i h
    obtain ⟨h1, h2, h3, h4⟩ := h
    have hl6 : ((edge ++ sp 6).take 6).length = 6 := by simp [sp]
    have hlen : ((edge ++ sp 6).take 6 ++ s.drop 6 ++ sp (72 - s.length) ++ edge).length = 72 + edge.length := by
      simp only [List.length_append, hl6, List.length_drop]
      simp only [sp, List.length_replicate]
      omega
    have hp : padE ((edge ++ sp 6).take 6 ++ s.drop 6 ++ sp (72 - s.length) ++ edge) = (edge ++ sp 6).take 6 ++ (s.drop 6 ++ sp (72 - s.length)) ++ edge := by
      unfold padE
      rw [hlen, show 72 - (72 + edge.length) = 0 by omega]
      simp [sp]
    have hps : padE s = s.take 6 ++ (s.drop 6 ++ sp (72 - s.length)) := by
      unfold padE
      rw [← List.append_assoc, List.take_append_drop]
    have hl66 : (s.drop 6 ++ sp (72 - s.length)).length = 66 := by
      simp only [List.length_append, List.length_drop, sp, List.length_replicate]; omega
    have ht6 : (s.take 6).length = 6 := by simp; omega
    obtain ⟨M, hM⟩ : ∃ M, M = s.drop 6 ++ sp (72 - s.length) := ⟨_, rfl⟩
    obtain ⟨P, hP⟩ : ∃ P, P = (edge ++ sp 6).take 6 := ⟨_, rfl⟩
    obtain ⟨Q, hQ⟩ : ∃ Q, Q = s.take 6 := ⟨_, rfl⟩
    refine lineSim_of (by omega) (by rw [hlen]; omega) ?_ ?_ ?_
    · rw [bad_none, bad_none]
      have e1 : s.all okB = (s.drop 6).all okB := by
        conv => lhs; rw [← List.take_append_drop 6 s]
        rw [List.all_append, h3, Bool.true_and]
      have e2 : ((edge ++ sp 6).take 6).all okB = true := by
        have : (edge ++ sp 6).all okB = true := by rw [List.all_append, h4, sp_all]; rfl
        rw [List.all_eq_true] at this ⊢
        exact fun b hb => this b (List.mem_of_mem_take hb)
      rw [e1, List.all_append, List.all_append, List.all_append, e2, sp_all, h4, Bool.true_and, Bool.and_true, Bool.and_true]
    · rw [hp, hps, ← hM, ← hP, ← hQ]
      rw [← hM] at hl66
      rw [← hP] at hl6
      rw [← hQ] at ht6
      rw [List.append_assoc, getD_r (by rw [ht6]; omega), getD_r (by rw [hl6]; omega), ht6, hl6, getD_l (by rw [hl66]; omega)]
    · rw [hp, hps, ← hM, ← hP, ← hQ]
      rw [← hM] at hl66
      rw [← hP] at hl6
      rw [← hQ] at ht6
      have e1 : (Q ++ M).drop 7 = M.drop 1 := by rw [show 7 = Q.length + 1 by omega, ← List.drop_drop, List.drop_left' rfl]
      have e2 : (P ++ M ++ edge).drop 7 = M.drop 1 ++ edge := by
        rw [List.append_assoc, show 7 = P.length + 1 by omega, ← List.drop_drop, List.drop_left' rfl, List.drop_append_of_le_length (by omega)]
      rw [e1, e2, List.take_append_of_le_length (by rw [List.length_drop]; omega)]
  · exact lineSim_refl dbg s
/-- The lines, one inserted ahead of the k-th, the others edited. -/
def withGo (k : Nat) (more edge : Str) : Nat → List Str → List Str
  | _, [] => []
  | i, s :: l => (if i = k then [more] else []) ++ editE edge s :: withGo k more edge (i + 1) l
theorem with_sim {dbg : Bool} {k : Nat} {more edge : Str} (he : edge.length ≤ 6) (hm : Skip dbg more) : ∀ (i : Nat) (l : List Str), Sim dbg l (withGo k more edge i l)
  | _, [] => .nil
  | i, s :: l => by
    have h := Sim.cons (edit_sim dbg he s) (with_sim (k := k) he hm (i + 1) l)
    rw [withGo]
    split
    · exact .skip hm h
    · exact h
theorem splitNL_mem10 : ∀ (s : Str), ∀ l ∈ splitNL s, (10 : UInt8) ∉ l
  | [], l, h => by simp [splitNL] at h; subst h; simp
  | b :: s, l, h => by
    have ih := splitNL_mem10 s
    unfold splitNL at h
    split at h
    · rcases List.mem_cons.1 h with rfl | h
      · simp
      · exact ih l h
    · rename_i hb
      split at h
      · simp only [List.mem_singleton] at h
        subst h
        simp only [List.mem_singleton]
        exact fun e => hb e.symm
      · rename_i l0 ls e
        rcases List.mem_cons.1 h with rfl | h
        · have := ih l0 (by rw [e]; simp)
          simp only [List.mem_cons, not_or]
          exact ⟨fun e => hb e.symm, this⟩
        · exact ih l (by rw [e]; simp [h])
theorem split_join : ∀ {l : List Str}, l ≠ [] → (∀ x ∈ l, (10 : UInt8) ∉ x) → splitNL (Lib.join l [10]) = l
  | [], h, _ => absurd rfl h
  | [x], _, h => by
    have e : Lib.join [x] [10] = x := by simp [Lib.join]
    rw [e]
    exact splitNL_none (h x (by simp))
  | x :: y :: l, _, h => by
    have e : Lib.join (x :: y :: l) [10] = x ++ 10 :: Lib.join (y :: l) [10] := by
      unfold Lib.join
      rw [List.intercalate_cons_cons]
      simp
    rw [e, splitNL_app _ (h x (by simp)), split_join (by simp) (fun z hz => h z (by simp only [List.mem_cons] at hz ⊢; exact .inr hz))]
theorem readL_trim (s : Str) (n : Int) (x : Rd) : readL false (splitNL (trimNL s)) n x = readL false (splitNL s) n x := by
  rcases splitNL_trim s with e | e
  · rw [e]
  · rw [e, readL_last nil_skip]
theorem readE_sim {s t : Str} (hs : s.length ≤ 1048576) (ht : t.length ≤ 1048576) (h : Sim false (splitNL s) (splitNL t)) : (readE s false).1.map absC = (readE t false).1.map absC ∧ FSim (readE s false).2 (readE t false).2 := by
  obtain ⟨h1, h2⟩ := readL_sim h (x := .start) (y := .start) 1 1 ⟨rfl, rfl⟩
  unfold readE
  rw [if_neg (by omega), if_neg (by omega), readL_trim, readL_trim]
  cases hp : readL false (splitNL s) 1 .start with
  | mk x f =>
    cases hq : readL false (splitNL t) 1 .start with
    | mk y g =>
      rw [hp, hq] at h1 h2
      simp only at h1 h2 ⊢
      by_cases hf : f = okF
      · have hg := h2.ok.1 hf
        subst hf hg
        rw [if_neg (show ¬ (okF ≠ okF) from fun q => q rfl), if_neg (show ¬ (okF ≠ okF) from fun q => q rfl), h1.odd]
        split
        · exact ⟨rfl, .of (by decide)⟩
        · exact ⟨h1.cards, .refl⟩
      · rw [if_pos hf, if_pos (fun e => hf (h2.ok.2 e))]
        exact ⟨rfl, h2⟩
theorem cardS_abs {a b : List CardC} (h : a.map absC = b.map absC) : a.map cardS = b.map cardS := by
  have e : cardS = (fun p : Bool × Str => p.2 ++ if p.1 = true then [60] else []) ∘ absC := by funext c; rfl
  rw [e, ← List.map_map, ← List.map_map, h]
theorem with_ne (k : Nat) (more edge : Str) (i : Nat) {l : List Str} (h : l ≠ []) : withGo k more edge i l ≠ [] := by
  cases l with
  | nil => exact absurd rfl h
  | cons s l => rw [withGo]; simp
theorem edit_ten {edge s : Str} (h : (10 : UInt8) ∉ s) : (10 : UInt8) ∉ editE edge s := by
  unfold editE
  split
  · rename_i hh
    obtain ⟨_, _, _, h4⟩ := hh
    have he : (10 : UInt8) ∉ edge := fun q => absurd (List.all_eq_true.1 h4 _ q) (by decide)
    have hsp : ∀ n, (10 : UInt8) ∉ sp n := fun n q => by unfold sp at q; exact absurd (List.mem_replicate.1 q).2 (by decide)
    simp only [List.mem_append, not_or]
    refine ⟨⟨⟨fun q => ?_, fun q => h (List.mem_of_mem_drop q)⟩, hsp _⟩, he⟩
    rcases List.mem_append.1 (List.mem_of_mem_take q) with q | q
    · exact he q
    · exact hsp _ q
  · exact h
theorem with_ten {k : Nat} {more edge : Str} (hm : (10 : UInt8) ∉ more) : ∀ (i : Nat) (l : List Str), (∀ x ∈ l, (10 : UInt8) ∉ x) → ∀ x ∈ withGo k more edge i l, (10 : UInt8) ∉ x
  | _, [], _, x, hx => by cases hx
  | i, s :: l, h, x, hx => by
    rw [withGo] at hx
    rcases List.mem_append.1 hx with hx | hx
    · split at hx
      · rw [List.mem_singleton.1 hx]; exact hm
      · cases hx
    · rcases List.mem_cons.1 hx with rfl | hx
      · exact edit_ten (h s (by simp))
      · exact with_ten hm (i + 1) l (fun y hy => h y (by simp [hy])) x hx
/-- How long lines are, joined. -/
def sumL : List Str → Nat
  | [] => 0
  | s :: l => s.length + 1 + sumL l
theorem join_sum : ∀ (l : List Str), (Lib.join l [10]).length ≤ sumL l
  | [] => by simp [Lib.join]
  | [x] => by simp [Lib.join, sumL]
  | x :: y :: l => by
    have e : Lib.join (x :: y :: l) [10] = x ++ 10 :: Lib.join (y :: l) [10] := by
      unfold Lib.join
      rw [List.intercalate_cons_cons]
      simp
    have ih := join_sum (y :: l)
    rw [e, List.length_append, List.length_cons, sumL]
    omega
theorem split_sum : ∀ s : Str, sumL (splitNL s) = s.length + 1
  | [] => rfl
  | b :: s => by
    have ih := split_sum s
    unfold splitNL
    split
    · rw [sumL, ih]; simp; omega
    · split
      · rename_i e; exact absurd e (splitNL_ne s)
      · rename_i l0 ls e
        rw [e, sumL] at ih
        rw [sumL]
        simp only [List.length_cons]
        omega
theorem edit_len {edge : Str} (he : edge.length ≤ 6) (s : Str) : (editE edge s).length ≤ 12 * s.length := by
  unfold editE
  split
  · rename_i h
    have hl6 : ((edge ++ sp 6).take 6).length ≤ 6 := by rw [List.length_take]; omega
    simp only [List.length_append, List.length_drop, sp, List.length_replicate] at hl6 ⊢
    omega
  · omega
theorem with_sum {k : Nat} {more edge : Str} (he : edge.length ≤ 6) (hm : more.length ≤ 80) : ∀ (i : Nat) (l : List Str), sumL (withGo k more edge i l) ≤ 12 * sumL l + (if i ≤ k then 81 else 0)
  | i, [] => by simp [withGo, sumL]
  | i, s :: l => by
    have ih := with_sum (k := k) he hm (i + 1) l
    have hl := edit_len he s
    rw [withGo]
    by_cases h : i = k
    · rw [if_pos h]
      simp only [List.cons_append, List.nil_append, sumL]
      rw [if_neg (by omega)] at ih
      rw [if_pos (by omega)]
      omega
    · rw [if_neg h]
      simp only [List.nil_append, sumL]
      have : (if i + 1 ≤ k then 81 else 0 : Nat) ≤ if i ≤ k then 81 else 0 := by split <;> split <;> omega
      omega
/-- The statement, apart from the program. -/
theorem ignored_law {text edge : Str} {k a : Nat} (ht : text.length ≤ 2000) (he : edge.length ≤ 6) (ha : a < 8) :
    (Lib.join (withGo k (moreL.getD a []) edge 0 (splitNL text)) [10]).length ≤ 100000 ∧ (readT (Lib.join (withGo k (moreL.getD a []) edge 0 (splitNL text)) [10])).1 = (readT text).1 ∧ FSim (readT text).2 (readT (Lib.join (withGo k (moreL.getD a []) edge 0 (splitNL text)) [10])).2 := by
  obtain ⟨W, hW⟩ : ∃ W, W = withGo k (moreL.getD a []) edge 0 (splitNL text) := ⟨_, rfl⟩
  have hml : (moreL.getD a []).length ≤ 80 := by
    match a, ha with
    | 0, _ => decide
    | 1, _ => decide
    | 2, _ => decide
    | 3, _ => decide
    | 4, _ => decide
    | 5, _ => decide
    | 6, _ => decide
    | 7, _ => decide
  have hmt : (10 : UInt8) ∉ moreL.getD a [] := by
    match a, ha with
    | 0, _ => decide
    | 1, _ => decide
    | 2, _ => decide
    | 3, _ => decide
    | 4, _ => decide
    | 5, _ => decide
    | 6, _ => decide
    | 7, _ => decide
  have h1 : (Lib.join W [10]).length ≤ 100000 := by
    have e1 := join_sum W
    have e2 := with_sum (k := k) he hml 0 (splitNL text)
    rw [split_sum, ← hW] at e2
    split at e2 <;> omega
  have hWs : splitNL (Lib.join W [10]) = W := by
    rw [hW]
    exact split_join (with_ne _ _ _ _ (splitNL_ne text)) (with_ten hmt 0 _ (splitNL_mem10 text))
  obtain ⟨h2, h3⟩ := readE_sim (s := text) (t := Lib.join W [10]) (by omega) (by omega) (by rw [hWs, hW]; exact with_sim he (more_skip a ha) 0 _)
  rw [← hW]
  refine ⟨h1, ?_, h3⟩
  unfold readT
  simp only
  rw [cardS_abs h2]
end Go.Proofs.YtikpnhdjjabdmaaDoor

/-
  The statement ColumnsIgnored, walked.
  Conditions: none.
-/
namespace Go.Proofs.YtikpnhdjjabdmaaDoor
open Go.AM
open Go.Proofs
open Go.Col
set_option maxRecDepth 100000

structure IgG where
  i : Nat
  b : Option Buf
  ws : List Str
structure IgOk (H : AHeap) (L W : List Str) (k : Nat) (more edge : Str) (g : IgG) : Prop where
  i : g.i ≤ L.length
  ok : bufOk H 1 g.b
  eq : bufC g.b = (g.ws.map strC).flatten
  all : g.ws ++ withGo k more edge g.i (L.drop g.i) = W
  len : g.ws.length ≤ 2 * g.i
theorem moreA_at {a : Nat} (ha : a < 8) : ([.str [], .str [32, 32, 32, 32, 32, 32, 42, 34], .str [32, 32, 32, 32, 32, 32, 47, 97, 110, 121, 116, 104, 105, 110, 103], .str [32, 32, 32, 32, 32, 32, 68, 32, 32, 32, 32, 88], .str [32, 32, 32, 32, 32, 32, 100, 88], .str (sp 80), .str [49, 50, 51, 52, 53, 54], .str [32, 32, 32, 32, 32, 32, 45]] : List AVal).getD a .dead = .str (moreL.getD a []) := by
  match a, ha with
  | 0, _ => rfl
  | 1, _ => rfl
  | 2, _ => rfl
  | 3, _ => rfl
  | 4, _ => rfl
  | 5, _ => rfl
  | 6, _ => rfl
  | 7, _ => rfl
set_option maxHeartbeats 4000000 in
theorem l_ColumnsIgnored (w₀ : World) (hm : MaxL w₀) (ht10 : Tab10 w₀) (h : AHeap) (text : Str) (hl : text.length ≤ 9223372036854775807) (a0 a1 : UInt8) (edge : Str) (hel : edge.length ≤ 9223372036854775807) :
    ACall Tryd.prog w₀ 5 [.str text, .agg [.int .u8 a0.toNat, .int .u8 a1.toNat], .str edge] h (fun x _ => x = .bool true) := by
  refine ACall.mono (R := fun x h' => x = .bool true ∧ h' = h) ?_ fun x h' hx => hx.1
  refine acall_intro (n := 127) (rs := [.tmp 6]) Tryd.func5 rfl rfl rfl rfl (Nat.le_of_ble_eq_true rfl) ?_
  simp only [initSlots]
  -- region 0  law.go:201
  refine awp_rseq [0, 2, 4] (by rfl) fun K hK => ?_
  refine aOps_box (by rfl) (by rfl) (by rfl) fun k0q0 hk0q0 => ?_
  try have hf_0q0 : h k0q0 = none := by first | assumption | (simp only [AHeap.set_none] at hk0q0; simp only [hk0q0])
  skip
  simp (decide := true) only [aOps_nil, ev, absV, absS, putD, Slots.put, Slots.get, Slots.keep, if_true, if_false, true_and, ↓ap_assign, pop_assign, AVal.cells, Nat.zero_add, Nat.reduceAdd]
  repeat (with_reducible refine And.intro ?_ ?_; · first | trivial | omega | (intro hg; simp only [Bool.and_eq_true, Bool.or_eq_true, Bool.not_eq_true', Bool.and_eq_false_iff, Bool.or_eq_false_iff, Bool.not_eq_false', decide_eq_true_eq, decide_eq_false_iff_not, eqNil] at hg; omega) | (simp only [List.length_append, List.length_map, List.length_range, List.length_replicate, List.length_take, List.length_drop, List.length_cons, List.length_nil, List.length_set, List.length_reverse]; omega))
  apply hK; clear hK K
  refine awp_seq ?_
  -- region 1  law.go:202
  refine awp_rseq [0, 2, 4, 24] (by rfl) fun K hK => ?_
  simp (decide := true) only [aOps_nil, ev, absV, absS, putD, Slots.put, Slots.get, Slots.keep, if_true, if_false, true_and, ↓ap_move, pop_move, ↓ap_len, pop_len, pLen_str Tryd.underlying9, ↓ap_binOp, pop_binOp, isNilC_int, cond_false, pBinX_int, pI_gtr, ↓ag_move, agP, agQ_some, nthDst, gKnown_bool, guardB_bool_false, implies_true, ↓ag_len, cv_len, cp_len, ↓ag_binOp, cv_binl, cp_binl, ↓ap_pick, pop_pick, pPick_bool, pickV_cond_r, pickV_or]
  repeat (with_reducible refine And.intro ?_ ?_; · first | trivial | omega | (intro hg; simp only [Bool.and_eq_true, Bool.or_eq_true, Bool.not_eq_true', Bool.and_eq_false_iff, Bool.or_eq_false_iff, Bool.not_eq_false', decide_eq_true_eq, decide_eq_false_iff_not, eqNil] at hg; omega) | (simp only [List.length_append, List.length_map, List.length_range, List.length_replicate, List.length_take, List.length_drop, List.length_cons, List.length_nil, List.length_set, List.length_reverse]; omega))
  apply hK; clear hK K
  refine awp_cond (b := _) rfl (fun hb1 => ?_) (fun hb1 => ?_)
  · try simp only [decide_eq_true_eq, Bool.or_eq_true] at hb1
    -- region 2  law.go:203
    refine awp_rseq [6] (by rfl) fun K hK => ?_
    refine aOps_callV (V := .bool true) (by rfl) (by rfl) (c_lives02 w₀ hm ht10 _) ?_
    simp (decide := true) only [aOps_nil, ev, putD, Slots.put, Slots.get, Slots.keep, if_true, if_false, true_and, ↓ap_assign, pop_assign]
    repeat (with_reducible refine And.intro ?_ ?_; · first | trivial | omega | (intro hg; simp only [Bool.and_eq_true, Bool.or_eq_true, Bool.not_eq_true', Bool.and_eq_false_iff, Bool.or_eq_false_iff, Bool.not_eq_false', decide_eq_true_eq, decide_eq_false_iff_not, eqNil] at hg; omega) | (simp only [List.length_append, List.length_map, List.length_range, List.length_replicate, List.length_take, List.length_drop, List.length_cons, List.length_nil, List.length_set, List.length_reverse]; omega))
    apply hK; clear hK K
    refine awp_ret ?_
    try simp only [thenA_ret]
    refine retA_ret h (by repeat (first | exact Sub.refl _ | assumption | refine Sub.trans_set ?_ (by assumption))) (resPre_tmp (resPre_nil)) ?_
    simp (decide := true) only [Slots.get, if_true, and_true, resOf_one]
    all_goals first | rfl | exact ⟨rfl, rfl⟩ | (simp (decide := true) only [if_true, if_false, *]; done) | (trace_state; fail)
  · try simp only [decide_eq_false_iff_not, Bool.or_eq_false_iff] at hb1
    have ht2 : text.length ≤ 2000 := by omega
    have he6 : edge.length ≤ 6 := by omega
    have hsl := splitNL_len text
    have hsn : 0 < (splitNL text).length := List.length_pos_iff.2 (splitNL_ne text)
    obtain ⟨kk, hkk⟩ : ∃ kk, kk = a0.toNat % (splitNL text).length := ⟨_, rfl⟩
    obtain ⟨aa, haa⟩ : ∃ aa, aa = a1.toNat % 8 := ⟨_, rfl⟩
    have ha8 : aa < 8 := by omega
    have hb0 := UInt8.toNat_lt a0
    have hb1' := UInt8.toNat_lt a1
    have htm : ((a0.toNat : Nat) : Int).tmod (((splitNL text).length : Nat) : Int) = (kk : Int) := by rw [Int.tmod_eq_emod_of_nonneg (by omega), hkk]; omega
    have htm2 : ((a1.toNat : Nat) : Int).tmod 8 = (aa : Int) := by rw [Int.tmod_eq_emod_of_nonneg (by omega), haa]; omega
    obtain ⟨g1, g2, g3⟩ := ignored_law (k := kk) ht2 he6 ha8
    obtain ⟨more, hmore⟩ : ∃ more, more = moreL.getD aa [] := ⟨_, rfl⟩
    rw [← hmore] at g1 g2 g3
    obtain ⟨W, hW⟩ : ∃ W, W = withGo kk more edge 0 (splitNL text) := ⟨_, rfl⟩
    rw [← hW] at g1 g2 g3
    have hmat := moreA_at ha8
    rw [← hmore] at hmat
    refine awp_skip ?_
    change Awp _ _ _ _ _ _ _
    -- region 3  law.go:205
    refine awp_rseq [0, 2, 4, 7] (by rfl) fun K hK => ?_
    simp (decide := true) only [ev, putD, Slots.put, Slots.get, if_true, if_false, true_and, ↓ap_move, pop_move]
    repeat (with_reducible refine And.intro ?_ ?_; · first | trivial | omega | (intro hg; simp only [Bool.and_eq_true, Bool.or_eq_true, Bool.not_eq_true', Bool.and_eq_false_iff, Bool.or_eq_false_iff, Bool.not_eq_false', decide_eq_true_eq, decide_eq_false_iff_not, eqNil] at hg; omega) | (simp only [List.length_append, List.length_map, List.length_range, List.length_replicate, List.length_take, List.length_drop, List.length_cons, List.length_nil, List.length_set, List.length_reverse]; omega))
    refine aOps_call (by rfl) (by rfl) (c_split w₀ hm _ text (by omega)) fun x3q1 h3q1 hx3q1 => ?_
    obtain ⟨ks, hks, rfl, hh3⟩ := hx3q1
    have hs3 : Sub (h.set k0q0 ⟨[.int .u8 a0.toNat, .int .u8 a1.toNat], 0⟩) h3q1 := by rw [hh3]; exact Sub.set hks
    have ebs : h3q1 ks = some ⟨(splitNL text).map AVal.str, 0⟩ := by rw [hh3]; exact AHeap.set_same _ _ _
    have hg0 : ([.int .u8 a0.toNat, .int .u8 a1.toNat] : List AVal).getD (Int.toNat 0) .dead = .int .u8 a0.toNat := rfl
    have hg1 : ([.int .u8 a0.toNat, .int .u8 a1.toNat] : List AVal).getD (Int.toNat 1) .dead = .int .u8 a1.toNat := rfl
    have hs_h3q1 : Sub h h3q1 := Sub.trans (by repeat (first | exact Sub.refl _ | assumption | refine Sub.trans_set ?_ (by assumption))) hs3
    have hr_h3q1 := hs_h3q1
    have eb_0q0 := hs3 k0q0 _ (by repeat (first | exact AHeap.set_same _ _ _ | assumption | refine (AHeap.set_ne _ _ (by first | assumption | exact Ne.symm (by assumption))).trans ?_))
    simp (decide := true) only [aOps_nil, ev, putD, Slots.put, Slots.get, Slots.keep, if_true, if_false, true_and, ↓ap_assign, pop_assign]
    repeat (with_reducible refine And.intro ?_ ?_; · first | trivial | omega | (intro hg; simp only [Bool.and_eq_true, Bool.or_eq_true, Bool.not_eq_true', Bool.and_eq_false_iff, Bool.or_eq_false_iff, Bool.not_eq_false', decide_eq_true_eq, decide_eq_false_iff_not, eqNil] at hg; omega) | (simp only [List.length_append, List.length_map, List.length_range, List.length_replicate, List.length_take, List.length_drop, List.length_cons, List.length_nil, List.length_set, List.length_reverse]; omega))
    apply hK; clear hK K
    -- region 4  law.go:206
    refine awp_rseq [0, 2, 4, 7, 8] (by rfl) fun K hK => ?_
    simp (decide := true) only [aOps_nil, ev, absV, absS, putD, Slots.put, Slots.get, Slots.keep, if_true, if_false, true_and, ↓ap_indexAddrL, apL_mk, pIndexAddr_ptr Tryd.underlying49 sz5, ↓ap_loadL, pLoad_one ag5, ↓ap_convert _ _ _ (es_int Tryd.underlying5 Tryd.underlying3), pop_convert, pConv_int Tryd.underlying5 Tryd.underlying3, ↓ap_move, pop_move, ↓ap_len, pop_len, pLen_slice Tryd.underlying40, ↓ap_binOp, pop_binOp, isNilC_tmp, cond_false, pBinX_int, pI_rem, ↓ap_assign, pop_assign, ne_eq, rd_own w₀ eb_0q0, Nat.zero_add, lv_int, Nat.mul_one, hg0]
    try simp (disch := omega) only [wrap_i64]
    repeat (with_reducible refine And.intro ?_ ?_; · first | trivial | omega | (intro hg; simp only [Bool.and_eq_true, Bool.or_eq_true, Bool.not_eq_true', Bool.and_eq_false_iff, Bool.or_eq_false_iff, Bool.not_eq_false', decide_eq_true_eq, decide_eq_false_iff_not, eqNil] at hg; omega) | (simp only [List.length_append, List.length_map, List.length_range, List.length_replicate, List.length_take, List.length_drop, List.length_cons, List.length_nil, List.length_set, List.length_reverse]; omega))
    apply hK; clear hK K
    -- region 5  law.go:207
    refine awp_dseq_F 8 [] [0, 2, 7, 8, 9] mixed (by kernel_rfl) (by rfl) fun K hK => ?_
    simp only [List.take_succ_cons, List.drop_succ_cons, List.take_nil, List.drop_nil]
    refine fOps_callV (V := .str (sp 80)) (by rfl) (by rfl) (by first | trivial | (simp (decide := true) only [AVal.okIn, okInL, and_true, true_and, faultA, markC, posA, cardA, rowA, AHeap.set_same, Option.isSome_some]; done) | (simp [AVal.okIn, okInL, AHeap.set]; done)) (fun g hg => c_spaces w₀ _ 80 (by decide)) ?_
    refine fOps_lay (by rfl) ?_
    refine aOps_buildSlice (cs := [.str [], .str [32, 32, 32, 32, 32, 32, 42, 34], .str [32, 32, 32, 32, 32, 32, 47, 97, 110, 121, 116, 104, 105, 110, 103], .str [32, 32, 32, 32, 32, 32, 68, 32, 32, 32, 32, 88], .str [32, 32, 32, 32, 32, 32, 100, 88], .str (sp 80), .str [49, 50, 51, 52, 53, 54], .str [32, 32, 32, 32, 32, 32, 45]]) (by kernel_rfl) fun k5q1 hk5q1 => ?_
    have hn_5q1 : h3q1 k5q1 = none := by first | assumption | (simp only [AHeap.set_none] at hk5q1; simp only [hk5q1])
    have hf_5q1 : h k5q1 = none := Sub.none hs_h3q1 hn_5q1
    have ne_5q1_0q0 : k5q1 ≠ k0q0 := AHeap.ne_some hn_5q1 eb_0q0
    rw [aOps_nil]
    simp (decide := true) only [aOps_nil, fOps_nil, ev, absV, absS, putD, Slots.put, Slots.get, Slots.keep, if_true, if_false, true_and, ↓fp_indexAddr, pop_load, pIndexAddr_ptr Tryd.underlying49 sz5, pop_indexAddr, ↓fp_load, pLoad_one ag5, ↓fp_binOp, pop_binOp, isNilC_int, cond_false, pBinX_int, pI_rem, pIndexAddr_slice Tryd.underlying40 sz9, pLoad_one ag9, ↓fp_assign, pop_assign, rd_ne', ne_eq, not_false_eq_true, ne_5q1_0q0.symm, rd_own w₀ eb_0q0, rd_any, Nat.zero_add, lv_int, lv_str, Nat.mul_one, hg1, htm, htm2, Nat.zero_add, Int.toNat_natCast, hmat]
    repeat (with_reducible refine And.intro ?_ ?_; · first | trivial | omega | (intro hg; simp only [Bool.and_eq_true, Bool.or_eq_true, Bool.not_eq_true', Bool.and_eq_false_iff, Bool.or_eq_false_iff, Bool.not_eq_false', decide_eq_true_eq, decide_eq_false_iff_not, eqNil] at hg; omega) | (simp only [List.length_append, List.length_map, List.length_range, List.length_replicate, List.length_take, List.length_drop, List.length_cons, List.length_nil, List.length_set, List.length_reverse]; omega))
    apply hK; clear hK K
    obtain ⟨H, hH⟩ : ∃ H, H = h3q1.set k5q1 ⟨[.str [], .str [32, 32, 32, 32, 32, 32, 42, 34], .str [32, 32, 32, 32, 32, 32, 47, 97, 110, 121, 116, 104, 105, 110, 103], .str [32, 32, 32, 32, 32, 32, 68, 32, 32, 32, 32, 88], .str [32, 32, 32, 32, 32, 32, 100, 88], .str (sp 80), .str [49, 50, 51, 52, 53, 54], .str [32, 32, 32, 32, 32, 32, 45]], 0⟩ := ⟨_, rfl⟩
    have hs_H : Sub h H := by rw [hH]; exact hs_h3q1.trans (Sub.set hn_5q1)
    have ebH : H ks = some ⟨(splitNL text).map AVal.str, 0⟩ := by rw [hH]; exact (Sub.set hn_5q1) _ _ ebs
    rw [← hH]
    -- region 6  law.go:208
    refine awp_rseq [0, 2, 7, 8, 9, 10] (by rfl) fun K hK => ?_
    simp (decide := true) only [aOps_nil, ev, absV, absS, putD, Slots.put, Slots.keep, if_true, if_false, true_and, ↓ap_assign, pop_assign]
    repeat (with_reducible refine And.intro ?_ ?_; · first | trivial | omega | (intro hg; simp only [Bool.and_eq_true, Bool.or_eq_true, Bool.not_eq_true', Bool.and_eq_false_iff, Bool.or_eq_false_iff, Bool.not_eq_false', decide_eq_true_eq, decide_eq_false_iff_not, eqNil] at hg; omega) | (simp only [List.length_append, List.length_map, List.length_range, List.length_replicate, List.length_take, List.length_drop, List.length_cons, List.length_nil, List.length_set, List.length_reverse]; omega))
    apply hK; clear hK K
    refine awp_seq ?_
    -- region 7  law.go:209
    refine awp_rseq [0, 2, 7, 8, 9, 10, 11] (by rfl) fun K hK => ?_
    simp (decide := true) only [aOps_nil, ev, absV, absS, putD, Slots.put, Slots.keep, if_true, if_false, true_and, ↓ap_assign, pop_assign]
    repeat (with_reducible refine And.intro ?_ ?_; · first | trivial | omega | (intro hg; simp only [Bool.and_eq_true, Bool.or_eq_true, Bool.not_eq_true', Bool.and_eq_false_iff, Bool.or_eq_false_iff, Bool.not_eq_false', decide_eq_true_eq, decide_eq_false_iff_not, eqNil] at hg; omega) | (simp only [List.length_append, List.length_map, List.length_range, List.length_replicate, List.length_take, List.length_drop, List.length_cons, List.length_nil, List.length_set, List.length_reverse]; omega))
    apply hK; clear hK K
    refine awp_block ?_
    refine awp_loopG [0, 2, 7, 8, 9, 10, 11] (fun g : IgG => [(0, .str text), (2, .str edge), (7, .slice (.own ks) 0 (splitNL text).length (.exact (splitNL text).length)), (8, .int .i64 kk), (9, .str more), (10, bufV 1 g.b), (11, .int .i64 g.i)]) (fun g : IgG => bufH H g.b) (fun g : IgG => IgOk H (splitNL text) W kk more edge g) (fun g : IgG => (splitNL text).length - g.i) ⟨0, none, []⟩ (by rfl) (Sub.refl _) ⟨Nat.zero_le _, trivial, rfl, hW.symm, Nat.le_refl _⟩ ?_
    rintro ⟨i, b, ws⟩ ⟨q1, q2, q3, q4, q5⟩
    simp only at q1 q2 q3 q4 q5 ⊢
    refine awp_seq ?_
    -- region 8  law.go:209
    refine awp_rseq [0, 2, 7, 8, 9, 10, 11, 44] (by rfl) fun K hK => ?_
    simp (decide := true) only [aOps_nil, ev, putD, Slots.put, Slots.get, Slots.keep, if_true, if_false, true_and, ↓ap_move, pop_move, ↓ap_len, pop_len, pLen_slice Tryd.underlying40, ↓ap_binOp, pop_binOp, isNilC_tmp, cond_false, pBinX_int, pI_lss]
    repeat (with_reducible refine And.intro ?_ ?_; · first | trivial | omega | (intro hg; simp only [Bool.and_eq_true, Bool.or_eq_true, Bool.not_eq_true', Bool.and_eq_false_iff, Bool.or_eq_false_iff, Bool.not_eq_false', decide_eq_true_eq, decide_eq_false_iff_not, eqNil] at hg; omega) | (simp only [List.length_append, List.length_map, List.length_range, List.length_replicate, List.length_take, List.length_drop, List.length_cons, List.length_nil, List.length_set, List.length_reverse]; omega))
    apply hK; clear hK K
    refine awp_cond (b := _) rfl (fun hb2 => ?_) (fun hb2 => ?_)
    · try simp only [decide_eq_true_eq] at hb2
      have hi : i < (splitNL text).length := by omega
      obtain ⟨s, hs⟩ : ∃ s, s = (splitNL text).getD i [] := ⟨_, rfl⟩
      have hsm : s.length ≤ text.length := by
        rw [hs]
        refine splitNL_mem text _ ?_
        rw [List.getD, List.getElem?_eq_getElem hi]
        exact List.getElem_mem hi
      rw [drop_getD [] hi, ← hs, withGo] at q4
      have hst : ((splitNL text).map AVal.str).getD i .dead = .str s := by rw [hs]; exact strs_at hi
      refine awp_skip ?_
      change Awp _ _ _ _ _ _ _
      refine awp_seq ?_
      refine awp_block ?_
      refine awp_seq ?_
      -- region 10  law.go:210
      refine awp_rseq [0, 2, 7, 8, 9, 10, 11, 49] (by rfl) fun K hK => ?_
      simp (decide := true) only [aOps_nil, ev, putD, Slots.put, Slots.get, Slots.keep, if_true, if_false, true_and, ↓ap_move, pop_move, ↓ap_binOp, pop_binOp, isNilC_tmp, cond_false, pBinX_int, pI_eql]
      repeat (with_reducible refine And.intro ?_ ?_; · first | trivial | omega | (intro hg; simp only [Bool.and_eq_true, Bool.or_eq_true, Bool.not_eq_true', Bool.and_eq_false_iff, Bool.or_eq_false_iff, Bool.not_eq_false', decide_eq_true_eq, decide_eq_false_iff_not, eqNil] at hg; omega) | (simp only [List.length_append, List.length_map, List.length_range, List.length_replicate, List.length_take, List.length_drop, List.length_cons, List.length_nil, List.length_set, List.length_reverse]; omega))
      apply hK; clear hK K
      refine awp_joinT [0, 2, 7, 8, 9, 10, 11] (fun z : Option Buf => [(0, .str text), (2, .str edge), (7, .slice (.own ks) 0 (splitNL text).length (.exact (splitNL text).length)), (8, .int .i64 kk), (9, .str more), (10, bufV 1 z), (11, .int .i64 i)]) (fun z : Option Buf => bufH H z) (fun z : Option Buf => bufOk H 1 z ∧ bufC z = ((ws ++ if i = kk then [more] else []).map strC).flatten) ?_ ?_
      · refine awp_cond (b := _) rfl (fun hb3 => ?_) (fun hb3 => ?_)
        · try simp only [decide_eq_true_eq] at hb3
          -- region 11  law.go:211
          refine awp_r [0, 2, 7, 8, 9, 10, 11] (by rfl) ?_
          simp (decide := true) only [ev, putD, Slots.put, Slots.get, if_true, if_false, true_and, ↓ap_move, pop_move]
          repeat (with_reducible refine And.intro ?_ ?_; · first | trivial | omega | (intro hg; simp only [Bool.and_eq_true, Bool.or_eq_true, Bool.not_eq_true', Bool.and_eq_false_iff, Bool.or_eq_false_iff, Bool.not_eq_false', decide_eq_true_eq, decide_eq_false_iff_not, eqNil] at hg; omega) | (simp only [List.length_append, List.length_map, List.length_range, List.length_replicate, List.length_take, List.length_drop, List.length_cons, List.length_nil, List.length_set, List.length_reverse]; omega))
          refine aOps_buildSlice (cs := [.str more]) (by kernel_rfl) fun k11q2 hk11q2 => ?_
          try have hf_11q2 : h k11q2 = none := by first | assumption | (simp only [AHeap.set_none] at hk11q2; simp only [hk11q2])
          refine aOps_appendL (es := 1) (zs := ws.map strC) (xs := [strC more]) (h₀ := H) (b := b) (by rfl) (by rfl) Tryd.underlying40 Tryd.underlying40 (fun k e => by cases e) sz9 by9 ze9 (by rfl) (by decide) (by rfl) q2 q3 (fun y hy => by obtain ⟨d, _, rfl⟩ := List.mem_map.1 hy; rfl) (Sub.set hk11q2) (by rfl) (IsL.own (AHeap.set_same _ _ _) (by simp [strC]) (by rfl) (by rfl) (.exact 1) (Nat.le_refl _)) (by rfl) (by simp; omega) (by simp; omega) fun b1 h1 o1 o2 o3 => ?_
          simp (decide := true) only [aOps_nil, ev, putD, Slots.put, Slots.get, Slots.keep, if_true, if_false, true_and, ↓ap_assign, pop_assign]
          repeat (with_reducible refine And.intro ?_ ?_; · first | trivial | omega | (intro hg; simp only [Bool.and_eq_true, Bool.or_eq_true, Bool.not_eq_true', Bool.and_eq_false_iff, Bool.or_eq_false_iff, Bool.not_eq_false', decide_eq_true_eq, decide_eq_false_iff_not, eqNil] at hg; omega) | (simp only [List.length_append, List.length_map, List.length_range, List.length_replicate, List.length_take, List.length_drop, List.length_cons, List.length_nil, List.length_set, List.length_reverse]; omega))
          try simp only [thenA_normal]
          first
          | (refine ⟨b1, rfl, o3, o1, ?_⟩
             rw [o2, if_pos (by omega), List.map_append]
             rfl)
          | (refine ⟨b, rfl, Sub.refl _, q2, ?_⟩
             rw [q3, if_neg (by omega), List.append_nil])
        · try simp only [decide_eq_false_iff_not] at hb3
          refine awp_skip ?_
          try simp only [thenA_normal]
          first
          | (refine ⟨b1, rfl, o3, o1, ?_⟩
             rw [o2, if_pos (by omega), List.map_append]
             rfl)
          | (refine ⟨b, rfl, Sub.refl _, q2, ?_⟩
             rw [q3, if_neg (by omega), List.append_nil])
      · rintro z ⟨y1, y2⟩
        have rls := fun o => rd_own w₀ (bufAt y1 ebH) o
        have ht6 : (s.drop ((0 : Nat) : Int).toNat).take ((6 : Int).toNat - ((0 : Nat) : Int).toNat) = s.take 6 := rfl
        -- region 12  law.go:213
        refine awp_rseq [0, 2, 7, 8, 9, 10, 11, 12] (by rfl) fun K hK => ?_
        simp (decide := true) only [aOps_nil, ev, putD, Slots.put, Slots.get, Slots.keep, if_true, if_false, true_and, ↓ap_move, pop_move, ↓ap_indexAddrL, apL_mk, pIndexAddr_slice Tryd.underlying40 sz9, ↓ap_loadL, pLoad_one ag9, ↓ap_assign, pop_assign, Nat.zero_add, lv_str, Nat.zero_add, Nat.mul_one, Int.toNat_natCast, rls, hst]
        repeat (with_reducible refine And.intro ?_ ?_; · first | trivial | omega | (intro hg; simp only [Bool.and_eq_true, Bool.or_eq_true, Bool.not_eq_true', Bool.and_eq_false_iff, Bool.or_eq_false_iff, Bool.not_eq_false', decide_eq_true_eq, decide_eq_false_iff_not, eqNil] at hg; omega) | (simp only [List.length_append, List.length_map, List.length_range, List.length_replicate, List.length_take, List.length_drop, List.length_cons, List.length_nil, List.length_set, List.length_reverse]; omega))
        apply hK; clear hK K
        refine awp_seq ?_
        -- region 13  law.go:214
        refine awp_rseq [0, 2, 7, 8, 9, 10, 11, 12, 74] (by rfl) fun K hK => ?_
        simp (decide := true) only [ev, absV, absS, putD, Slots.put, Slots.get, if_true, if_false, true_and, ↓ap_move, pop_move, ↓ap_len, pop_len, pLen_str Tryd.underlying9, ↓ap_binOp, pop_binOp, isNilC_int, cond_false, pBinX_int, pI_geq, ↓ag_move, agP, agQ_some, nthDst, gKnown_bool, guardB_bool_true, implies_true, ↓ag_len, cv_len, cp_len, ↓ag_binOp, cv_binl, cp_binl, pI_leq, ↓ap_pick, pop_pick, pPick_bool, pickV_cond_l, pickV_and, ↓ag_slice, pop_slice, evO, pSliceS_0i Tryd.underlying9, pSliceS, bndA_none, bndA_int, cv_slice, cp_slice, ht6]
        repeat (with_reducible refine And.intro ?_ ?_; · first | trivial | omega | (intro hg; simp only [Bool.and_eq_true, decide_eq_true_eq] at hg; omega) | (simp only [List.length_append, List.length_map, List.length_range, List.length_replicate, List.length_take, List.length_drop, List.length_cons, List.length_nil, List.length_set, List.length_reverse]; omega))
        first
        | (refine aOps_yes (by rfl) ?_; refine aOps_callV (V := .bool ((s.take 6).all okB)) (by rfl) (by rfl) (c_plain w₀ _ (s.take 6) (by simp; omega)) ?_)
        | (refine aOps_gcall (V := .bool ((s.take 6).all okB)) (f := _) (cap := _) (xs := _) rfl (fun hg => ⟨rfl, ?_⟩) (fun hg => c_plain w₀ _ (s.take 6) (by simp; omega)) ?_; · (simp (decide := true) only [gv, nthDst, Slots.get, if_true, if_false, guardB_bool_true] at hg; simp (decide := true) only [evs, ev, Slots.get, if_true, if_false, hg, condV_true, List.append_nil, List.map_cons, List.map_nil] <;> try rfl))
        simp (decide := true) only [ev, absV, absS, putD, Slots.put, Slots.get, if_true, if_false, true_and, gv, nthDst, guardB_bool_true, ↓ap_pick, pop_pick, pPick_bool, pickV_cond_l, pickV_and, ↓ap_move, pop_move, ↓ag_move, agP, agQ_some, gKnown_bool, implies_true]
        repeat (with_reducible refine And.intro ?_ ?_; · first | trivial | omega | (intro hg; simp only [Bool.and_eq_true, Bool.or_eq_true, Bool.not_eq_true', Bool.and_eq_false_iff, Bool.or_eq_false_iff, Bool.not_eq_false', decide_eq_true_eq, decide_eq_false_iff_not, eqNil] at hg; omega) | (simp only [List.length_append, List.length_map, List.length_range, List.length_replicate, List.length_take, List.length_drop, List.length_cons, List.length_nil, List.length_set, List.length_reverse]; omega))
        first
        | (refine aOps_yes (by rfl) ?_; refine aOps_callV (V := .bool (edge.all okB)) (by rfl) (by rfl) (c_plain w₀ _ edge (by omega)) ?_)
        | (refine aOps_gcall (V := .bool (edge.all okB)) (f := _) (cap := _) (xs := _) rfl (fun hg => ⟨rfl, ?_⟩) (fun hg => c_plain w₀ _ edge (by omega)) ?_; · (simp (decide := true) only [gv, nthDst, Slots.get, if_true, if_false, guardB_bool_true] at hg; simp (decide := true) only [evs, ev, Slots.get, if_true, if_false, hg, condV_true, List.append_nil, List.map_cons, List.map_nil] <;> try rfl))
        simp (decide := true) only [aOps_nil, ev, absV, absS, putD, Slots.put, Slots.get, Slots.keep, if_true, if_false, true_and, gv, nthDst, guardB_bool_true, ↓ap_pick, pop_pick, pPick_bool, pickV_cond_l, pickV_and]
        repeat (with_reducible refine And.intro ?_ ?_; · first | trivial | omega | (intro hg; simp only [Bool.and_eq_true, Bool.or_eq_true, Bool.not_eq_true', Bool.and_eq_false_iff, Bool.or_eq_false_iff, Bool.not_eq_false', decide_eq_true_eq, decide_eq_false_iff_not, eqNil] at hg; omega) | (simp only [List.length_append, List.length_map, List.length_range, List.length_replicate, List.length_take, List.length_drop, List.length_cons, List.length_nil, List.length_set, List.length_reverse]; omega))
        apply hK; clear hK K
        refine awp_joinT [0, 2, 7, 8, 9, 10, 11, 12] (fun u : Unit => [(0, .str text), (2, .str edge), (7, .slice (.own ks) 0 (splitNL text).length (.exact (splitNL text).length)), (8, .int .i64 kk), (9, .str more), (10, bufV 1 z), (11, .int .i64 i), (12, .str (editE edge s))]) (fun u : Unit => bufH H z) (fun u : Unit => True) ?_ ?_
        · refine awp_cond (b := _) rfl (fun hb4 => ?_) (fun hb4 => ?_)
          · try simp only [decide_eq_true_eq, Bool.and_eq_true] at hb4
            obtain ⟨⟨⟨w1, w2⟩, w3⟩, w4⟩ := hb4
            have hed : editE edge s = (edge ++ sp 6).take 6 ++ s.drop 6 ++ sp (72 - s.length) ++ edge := by
              unfold editE
              rw [if_pos ⟨by omega, by omega, w3, w4⟩]
            have ht6e : ((edge ++ sp 6).drop ((0 : Nat) : Int).toNat).take ((6 : Int).toNat - ((0 : Nat) : Int).toNat) = (edge ++ sp 6).take 6 := rfl
            have hd6 : (s.drop (6 : Int).toNat).take ((s.length : Int).toNat - (6 : Int).toNat) = s.drop 6 := by
              rw [Int.toNat_natCast]
              exact List.take_of_length_le (by simp)
            have h72 : (72 : Int) - (s.length : Int) = ((72 - s.length : Nat) : Int) := by omega
            have hsp6 : (sp 6).length = 6 := rfl
            have hsp72 : (sp (72 - s.length)).length = 72 - s.length := by simp [sp]
            have hd6l : (s.drop 6).length = s.length - 6 := by simp
            have ht6l : ((edge ++ sp 6).take 6).length ≤ 6 := by rw [List.length_take]; omega
            -- region 14  law.go:215
            refine awp_draw_any mixed (by kernel_rfl) (by rfl) ?_
            simp (decide := true) only [ev, putD, Slots.put, Slots.get, if_true, if_false, true_and, and_true, ↓vp_move, pop_move]
            repeat (with_reducible refine And.intro ?_ ?_; · first | trivial | omega | (intro hg; simp only [Bool.and_eq_true, Bool.or_eq_true, Bool.not_eq_true', Bool.and_eq_false_iff, Bool.or_eq_false_iff, Bool.not_eq_false', decide_eq_true_eq, decide_eq_false_iff_not, eqNil] at hg; omega) | (simp only [List.length_append, List.length_map, List.length_range, List.length_replicate, List.length_take, List.length_drop, List.length_cons, List.length_nil, List.length_set, List.length_reverse]; omega))
            refine vOps_callV (V := .str (sp 6)) (by rfl) (by rfl) (c_spaces w₀ _ 6 (by decide)) ?_
            simp (decide := true) only [ev, absV, absS, putD, Slots.put, Slots.get, if_true, if_false, true_and, ↓vp_binOp, pop_binOp, isNilC_tmp, cond_false, pBinX_str, pS_add, ↓vp_slice, pop_slice, evO, pSliceS_0i Tryd.underlying9, pSliceS_i0 Tryd.underlying9, pSliceS, bndA_none, bndA_int, ↓vp_move, pop_move, ↓vp_len, pop_len, pLen_str Tryd.underlying9, pBinX_int, pI_sub, ht6e, hd6, h72, hsp6]
            try simp (disch := omega) only [wrap_i64]
            repeat (with_reducible refine And.intro ?_ ?_; · first | trivial | omega | (intro hg; simp only [Bool.and_eq_true, Bool.or_eq_true, Bool.not_eq_true', Bool.and_eq_false_iff, Bool.or_eq_false_iff, Bool.not_eq_false', decide_eq_true_eq, decide_eq_false_iff_not, eqNil] at hg; omega) | (simp only [List.length_append]; omega))
            refine vOps_callV (V := .str (sp (72 - s.length))) (by rfl) (by rfl) (c_spaces w₀ _ (72 - s.length) (by omega)) ?_
            simp (decide := true) only [vOps_nil, ev, putD, Slots.put, Slots.get, if_true, if_false, true_and, ↓vp_binOp, pop_binOp, isNilC_tmp, cond_false, pBinX_str, pS_add, ↓vp_move, pop_move, ↓vp_assign, pop_assign, hsp72]
            repeat (with_reducible refine And.intro ?_ ?_; · first | trivial | omega | (intro hg; simp only [Bool.and_eq_true, Bool.or_eq_true, Bool.not_eq_true', Bool.and_eq_false_iff, Bool.or_eq_false_iff, Bool.not_eq_false', decide_eq_true_eq, decide_eq_false_iff_not, eqNil] at hg; omega) | (simp only [List.length_append, List.length_take, List.length_drop]; omega))
            try simp only [thenA_normal]
            first
            | refine ⟨(), ?_, Sub.refl _, trivial⟩
            | refine ⟨(), ?_, Sub.refl _⟩
            first
            | (rw [hed]; rfl)
            | (have hne : editE edge s = s := by
                 unfold editE
                 rw [if_neg]
                 rintro ⟨w1, w2, w3, w4⟩
                 rcases hb4 with ((e | e) | e) | e
                 · omega
                 · omega
                 · rw [w3] at e; cases e
                 · rw [w4] at e; cases e
               rw [hne]
               rfl)
          · try simp only [decide_eq_false_iff_not, Bool.and_eq_false_iff] at hb4
            refine awp_skip ?_
            try simp only [thenA_normal]
            first
            | refine ⟨(), ?_, Sub.refl _, trivial⟩
            | refine ⟨(), ?_, Sub.refl _⟩
            first
            | (rw [hed]; rfl)
            | (have hne : editE edge s = s := by
                 unfold editE
                 rw [if_neg]
                 rintro ⟨w1, w2, w3, w4⟩
                 rcases hb4 with ((e | e) | e) | e
                 · omega
                 · omega
                 · rw [w3] at e; cases e
                 · rw [w4] at e; cases e
               rw [hne]
               rfl)
        · intro _ _
          -- region 15  law.go:217
          refine awp_r [0, 2, 7, 8, 9, 10, 11] (by rfl) ?_
          simp (decide := true) only [ev, putD, Slots.put, Slots.get, if_true, if_false, true_and, ↓ap_move, pop_move]
          repeat (with_reducible refine And.intro ?_ ?_; · first | trivial | omega | (intro hg; simp only [Bool.and_eq_true, Bool.or_eq_true, Bool.not_eq_true', Bool.and_eq_false_iff, Bool.or_eq_false_iff, Bool.not_eq_false', decide_eq_true_eq, decide_eq_false_iff_not, eqNil] at hg; omega) | (simp only [List.length_append, List.length_map, List.length_range, List.length_replicate, List.length_take, List.length_drop, List.length_cons, List.length_nil, List.length_set, List.length_reverse]; omega))
          refine aOps_buildSlice (cs := [.str (editE edge s)]) (by kernel_rfl) fun k15q2 hk15q2 => ?_
          try have hf_15q2 : h k15q2 = none := by first | assumption | (simp only [AHeap.set_none] at hk15q2; simp only [hk15q2])
          refine aOps_appendL (es := 1) (zs := (ws ++ if i = kk then [more] else []).map strC) (xs := [strC (editE edge s)]) (h₀ := H) (b := z) (by rfl) (by rfl) Tryd.underlying40 Tryd.underlying40 (fun k e => by cases e) sz9 by9 ze9 (by rfl) (by decide) (by rfl) y1 y2 (fun y hy => by obtain ⟨d, _, rfl⟩ := List.mem_map.1 hy; rfl) (Sub.set hk15q2) (by rfl) (IsL.own (AHeap.set_same _ _ _) (by simp [strC]) (by rfl) (by rfl) (.exact 1) (Nat.le_refl _)) (by rfl) (by simp; split <;> simp <;> omega) (by simp; split <;> simp <;> omega) fun b2 h2 o1 o2 o3 => ?_
          simp (decide := true) only [aOps_nil, ev, putD, Slots.put, Slots.get, Slots.keep, if_true, if_false, true_and, ↓ap_assign, pop_assign]
          repeat (with_reducible refine And.intro ?_ ?_; · first | trivial | omega | (intro hg; simp only [Bool.and_eq_true, Bool.or_eq_true, Bool.not_eq_true', Bool.and_eq_false_iff, Bool.or_eq_false_iff, Bool.not_eq_false', decide_eq_true_eq, decide_eq_false_iff_not, eqNil] at hg; omega) | (simp only [List.length_append, List.length_map, List.length_range, List.length_replicate, List.length_take, List.length_drop, List.length_cons, List.length_nil, List.length_set, List.length_reverse]; omega))
          change Awp _ _ _ _ _ _ _
          -- region 9  law.go:209
          refine awp_r [0, 2, 7, 8, 9, 10, 11] (by rfl) ?_
          simp (decide := true) only [aOps_nil, ev, absV, absS, putD, Slots.put, Slots.get, Slots.keep, if_true, if_false, true_and, ↓ap_move, pop_move, ↓ap_binOp, pop_binOp, isNilC_int, cond_false, pBinX_int, pI_add, ↓ap_assign, pop_assign]
          try simp (disch := omega) only [wrap_i64]
          repeat (with_reducible refine And.intro ?_ ?_; · first | trivial | omega | (intro hg; simp only [Bool.and_eq_true, Bool.or_eq_true, Bool.not_eq_true', Bool.and_eq_false_iff, Bool.or_eq_false_iff, Bool.not_eq_false', decide_eq_true_eq, decide_eq_false_iff_not, eqNil] at hg; omega) | (simp only [List.length_append, List.length_map, List.length_range, List.length_replicate, List.length_take, List.length_drop, List.length_cons, List.length_nil, List.length_set, List.length_reverse]; omega))
          try simp only [thenA_normal]
          refine ⟨⟨i + 1, b2, ws ++ (if i = kk then [more] else []) ++ [editE edge s]⟩, rfl, o3, ⟨hi, o1, ?_, ?_, ?_⟩, by simp only; omega⟩
          · simp only
            rw [o2]
            simp only [List.map_append, List.map_cons, List.map_nil]
          · simp only
            rw [← q4]
            simp only [List.append_assoc, List.cons_append, List.nil_append]
          · simp only [List.length_append, List.length_cons, List.length_nil]
            split <;> simp <;> omega
    · try simp only [decide_eq_false_iff_not] at hb2
      refine awp_exit ?_
      change Awp _ _ _ _ _ _ _
      obtain ⟨B, hB⟩ : ∃ B, B = bufH H b := ⟨_, rfl⟩
      have hs_B : Sub h B := by rw [hB]; exact hs_H.trans (Sub.buf q2)
      have hie : i = (splitNL text).length := by omega
      rw [hie, List.drop_length, withGo, List.append_nil] at q4
      rw [q4] at q3
      have hst : IsStrs w₀ B (bufV 1 b) W := IsL.buf (w₀ := w₀) q2 (by decide) q3 (fun y hy => by obtain ⟨d, _, rfl⟩ := List.mem_map.1 hy; rfl) (by rw [hB]; exact Sub.refl _)
      have hWl : W.length ≤ 140737488355328 := by rw [← q4]; omega
      rw [← hB]
      -- region 16  law.go:219
      refine awp_rseq [10, 13, 14] (by rfl) fun K hK => ?_
      simp (decide := true) only [ev, putD, Slots.put, Slots.get, if_true, if_false, true_and, ↓ap_move, pop_move]
      repeat (with_reducible refine And.intro ?_ ?_; · first | trivial | omega | (intro hg; simp only [Bool.and_eq_true, Bool.or_eq_true, Bool.not_eq_true', Bool.and_eq_false_iff, Bool.or_eq_false_iff, Bool.not_eq_false', decide_eq_true_eq, decide_eq_false_iff_not, eqNil] at hg; omega) | (simp only [List.length_append, List.length_map, List.length_range, List.length_replicate, List.length_take, List.length_drop, List.length_cons, List.length_nil, List.length_set, List.length_reverse]; omega))
      refine aOps_call (by rfl) (by rfl) (c_read1 w₀ hm _ text (by omega)) fun x16q1 h16q1 hx16q1 => ?_
      obtain ⟨rfl, hs16⟩ := hx16q1
      have hs_h16q1 : Sub h h16q1 := Sub.trans (by repeat (first | exact Sub.refl _ | assumption | refine Sub.trans_set ?_ (by assumption))) hs16
      have hr_h16q1 : Sub B h16q1 := Sub.trans (by repeat (first | exact Sub.refl _ | assumption | refine Sub.trans_set ?_ (by assumption))) hs16
      simp (decide := true) only [ev, putD, Slots.put, Slots.get, if_true, if_false, true_and, ↓ap_move, pop_move, ↓ap_extract, pop_extract, pExt_tuple, List.length_cons, List.length_nil, List.getD_cons_zero, List.getD_cons_succ, List.getD_cons_zero, List.getD_cons_succ, Nat.zero_add, Nat.reduceAdd, faultA]
      repeat (with_reducible refine And.intro ?_ ?_; · first | trivial | omega | (intro hg; simp only [Bool.and_eq_true, Bool.or_eq_true, Bool.not_eq_true', Bool.and_eq_false_iff, Bool.or_eq_false_iff, Bool.not_eq_false', decide_eq_true_eq, decide_eq_false_iff_not, eqNil] at hg; omega) | (simp only [List.length_append, List.length_map, List.length_range, List.length_replicate, List.length_take, List.length_drop, List.length_cons, List.length_nil, List.length_set, List.length_reverse]; omega))
      refine aOps_alloc ze34 (cs := [.int .i64 0, .int .i64 0, .int .i64 0]) (by rfl) fun k16q5 hk16q5 => ?_
      have hn_16q5 : h16q1 k16q5 = none := by first | assumption | (simp only [AHeap.set_none] at hk16q5; simp only [hk16q5])
      have hf_16q5 : h k16q5 = none := Sub.none hs_h16q1 hn_16q5
      simp (decide := true) only [ev, putD, Slots.put, Slots.get, if_true, if_false, true_and, ↓ap_assign, pop_assign]
      repeat (with_reducible refine And.intro ?_ ?_; · first | trivial | omega | (intro hg; simp only [Bool.and_eq_true, Bool.or_eq_true, Bool.not_eq_true', Bool.and_eq_false_iff, Bool.or_eq_false_iff, Bool.not_eq_false', decide_eq_true_eq, decide_eq_false_iff_not, eqNil] at hg; omega) | (simp only [List.length_append, List.length_map, List.length_range, List.length_replicate, List.length_take, List.length_drop, List.length_cons, List.length_nil, List.length_set, List.length_reverse]; omega))
      refine aOps_store (by rfl) (by rfl) (by repeat (first | exact AHeap.set_same _ _ _ | assumption | refine (AHeap.set_ne _ _ (by first | assumption | exact Ne.symm (by assumption))).trans ?_)) sz34 (by rfl) (by rfl) (by first | exact Nat.le_refl _ | decide | (simp; done) | (simp; omega)) (Nat.zero_le _) (by rfl) ?_
      simp only [AHeap.set_set, AVal.cells]
      simp (decide := true) only [aOps_nil, ev, putD, Slots.get, Slots.keep, if_true, if_false, setAt, List.set_cons_zero, List.set_cons_succ, Nat.zero_add, Nat.reduceAdd]
      repeat (with_reducible refine And.intro ?_ ?_; · first | trivial | omega | (intro hg; simp only [Bool.and_eq_true, Bool.or_eq_true, Bool.not_eq_true', Bool.and_eq_false_iff, Bool.or_eq_false_iff, Bool.not_eq_false', decide_eq_true_eq, decide_eq_false_iff_not, eqNil] at hg; omega) | (simp only [List.length_append, List.length_map, List.length_range, List.length_replicate, List.length_take, List.length_drop, List.length_cons, List.length_nil, List.length_set, List.length_reverse]; omega))
      apply hK; clear hK K
      -- region 17  law.go:220
      refine awp_rseq [13, 14, 15, 16] (by rfl) fun K hK => ?_
      simp (decide := true) only [ev, putD, Slots.put, Slots.get, if_true, if_false, true_and, ↓ap_move, pop_move]
      repeat (with_reducible refine And.intro ?_ ?_; · first | trivial | omega | (intro hg; simp only [Bool.and_eq_true, Bool.or_eq_true, Bool.not_eq_true', Bool.and_eq_false_iff, Bool.or_eq_false_iff, Bool.not_eq_false', decide_eq_true_eq, decide_eq_false_iff_not, eqNil] at hg; omega) | (simp only [List.length_append, List.length_map, List.length_range, List.length_replicate, List.length_take, List.length_drop, List.length_cons, List.length_nil, List.length_set, List.length_reverse]; omega))
      refine aOps_callV (V := .str (Lib.join W [10])) (by rfl) (by rfl) (c_join w₀ _ _ _ _ (hst.mono (hr_h16q1.trans (Sub.set hn_16q5))) hWl (by omega)) ?_
      refine aOps_call (by rfl) (by rfl) (c_read1 w₀ hm _ (Lib.join W [10]) g1) fun x17q2 h17q2 hx17q2 => ?_
      rw [g2] at hx17q2
      obtain ⟨rfl, hs17⟩ := hx17q2
      have hs_h17q2 : Sub h h17q2 := Sub.trans (by repeat (first | exact Sub.refl _ | assumption | refine Sub.trans_set ?_ (by assumption))) hs17
      have hr_h17q2 : Sub h16q1 h17q2 := Sub.trans (by repeat (first | exact Sub.refl _ | assumption | refine Sub.trans_set ?_ (by assumption))) hs17
      have eb_16q5 := hs17 k16q5 _ (by repeat (first | exact AHeap.set_same _ _ _ | assumption | refine (AHeap.set_ne _ _ (by first | assumption | exact Ne.symm (by assumption))).trans ?_))
      simp (decide := true) only [ev, putD, Slots.put, Slots.get, if_true, if_false, true_and, ↓ap_move, pop_move, ↓ap_extract, pop_extract, pExt_tuple, List.length_cons, List.length_nil, List.getD_cons_zero, List.getD_cons_succ, List.getD_cons_zero, List.getD_cons_succ, Nat.zero_add, Nat.reduceAdd, faultA]
      repeat (with_reducible refine And.intro ?_ ?_; · first | trivial | omega | (intro hg; simp only [Bool.and_eq_true, Bool.or_eq_true, Bool.not_eq_true', Bool.and_eq_false_iff, Bool.or_eq_false_iff, Bool.not_eq_false', decide_eq_true_eq, decide_eq_false_iff_not, eqNil] at hg; omega) | (simp only [List.length_append, List.length_map, List.length_range, List.length_replicate, List.length_take, List.length_drop, List.length_cons, List.length_nil, List.length_set, List.length_reverse]; omega))
      refine aOps_alloc ze34 (cs := [.int .i64 0, .int .i64 0, .int .i64 0]) (by rfl) fun k17q6 hk17q6 => ?_
      have hn_17q6 : h17q2 k17q6 = none := by first | assumption | (simp only [AHeap.set_none] at hk17q6; simp only [hk17q6])
      have hf_17q6 : h k17q6 = none := Sub.none hs_h17q2 hn_17q6
      have ne_17q6_16q5 : k17q6 ≠ k16q5 := AHeap.ne_some hn_17q6 eb_16q5
      simp (decide := true) only [ev, putD, Slots.put, Slots.get, if_true, if_false, true_and, ↓ap_assign, pop_assign]
      repeat (with_reducible refine And.intro ?_ ?_; · first | trivial | omega | (intro hg; simp only [Bool.and_eq_true, Bool.or_eq_true, Bool.not_eq_true', Bool.and_eq_false_iff, Bool.or_eq_false_iff, Bool.not_eq_false', decide_eq_true_eq, decide_eq_false_iff_not, eqNil] at hg; omega) | (simp only [List.length_append, List.length_map, List.length_range, List.length_replicate, List.length_take, List.length_drop, List.length_cons, List.length_nil, List.length_set, List.length_reverse]; omega))
      refine aOps_store (by rfl) (by rfl) (by repeat (first | exact AHeap.set_same _ _ _ | assumption | refine (AHeap.set_ne _ _ (by first | assumption | exact Ne.symm (by assumption))).trans ?_)) sz34 (by rfl) (by rfl) (by first | exact Nat.le_refl _ | decide | (simp; done) | (simp; omega)) (Nat.zero_le _) (by rfl) ?_
      simp only [AHeap.set_set, AVal.cells]
      simp (decide := true) only [aOps_nil, ev, putD, Slots.get, Slots.keep, if_true, if_false, setAt, List.set_cons_zero, List.set_cons_succ, Nat.zero_add, Nat.reduceAdd]
      repeat (with_reducible refine And.intro ?_ ?_; · first | trivial | omega | (intro hg; simp only [Bool.and_eq_true, Bool.or_eq_true, Bool.not_eq_true', Bool.and_eq_false_iff, Bool.or_eq_false_iff, Bool.not_eq_false', decide_eq_true_eq, decide_eq_false_iff_not, eqNil] at hg; omega) | (simp only [List.length_append, List.length_map, List.length_range, List.length_replicate, List.length_take, List.length_drop, List.length_cons, List.length_nil, List.length_set, List.length_reverse]; omega))
      apply hK; clear hK K
      -- region 18  law.go:221
      refine awp_rseq [6] (by rfl) fun K hK => ?_
      simp (decide := true) only [ev, absV, absS, putD, Slots.put, Slots.get, if_true, if_false, true_and, ↓ap_move, pop_move, ↓ap_binOp, pop_binOp, isNilC_tmp, cond_false, pBinX_str, pS_eql, ↓ag_fieldAddr, pop_fieldAddr, agP, agQ_some, nthDst, gKnown_bool, gKnown_cond, guardB_cond, guardB_bool_true, guardB_bool_false, cv_cv, implies_true, Bool.not_not, decide_true, condV_true, Bool.and_true, Bool.true_and, fa34_0, ↓ag_loadL, agQL_some, agL_mk, agL_ld1, pLoad_one ag23, ↓ag_binOp, cv_binl, cv_binr, cp_binl, cp_binr, pBinX_int, pI_eql, ↓ap_pick, pop_pick, pPick_bool, pickV_cond_l, cp_nest3, pickV_and, pickV_or, isNilC_int, pI_neq, ↓ag_move, pLoad_agg ag34 sz34, pBinX_agg, eq34, ↓ag_pick, cv_pick, cp_pick, rd_ne', ne_eq, not_false_eq_true, ne_17q6_16q5.symm, rd_own w₀ eb_16q5, rd_any, cellsAt, List.getD_cons_zero, List.getD_cons_succ, Nat.zero_add, Nat.reduceAdd, lv_int, allLive, Bool.and_true]
      repeat (with_reducible refine And.intro ?_ ?_; · first | trivial | omega | (intro hg; simp only [Bool.and_eq_true, Bool.or_eq_true, Bool.not_eq_true', Bool.and_eq_false_iff, Bool.or_eq_false_iff, Bool.not_eq_false', decide_eq_true_eq, decide_eq_false_iff_not, eqNil] at hg; omega) | (simp only [List.length_append, List.length_map, List.length_range, List.length_replicate, List.length_take, List.length_drop, List.length_cons, List.length_nil, List.length_set, List.length_reverse]; omega))
      first
      | (refine aOps_yes (by rfl) ?_; refine aOps_callV (V := .bool true) (by rfl) (by rfl) (c_lives02 w₀ hm ht10 _) ?_)
      | (refine aOps_gcall (V := .bool true) (f := _) (cap := _) (xs := _) rfl (fun hg => ⟨rfl, ?_⟩) (fun hg => c_lives02 w₀ hm ht10 _) ?_; · (simp (decide := true) only [gv, nthDst, Slots.get, if_true, if_false, guardB_bool_true] at hg; simp (decide := true) only [evs, hg, List.append_nil, List.map_nil] <;> try rfl))
      simp (decide := true) only [aOps_nil, ev, absV, absS, putD, Slots.put, Slots.get, Slots.keep, if_true, if_false, true_and, gv, nthDst, guardB_bool_true, ↓ap_pick, pop_pick, pPick_bool, pickV_cond_l, pickV_and, ↓ap_assign, pop_assign, Bool.and_true]
      repeat (with_reducible refine And.intro ?_ ?_; · first | trivial | omega | (intro hg; simp only [Bool.and_eq_true, Bool.or_eq_true, Bool.not_eq_true', Bool.and_eq_false_iff, Bool.or_eq_false_iff, Bool.not_eq_false', decide_eq_true_eq, decide_eq_false_iff_not, eqNil] at hg; omega) | (simp only [List.length_append, List.length_map, List.length_range, List.length_replicate, List.length_take, List.length_drop, List.length_cons, List.length_nil, List.length_set, List.length_reverse]; omega))
      apply hK; clear hK K
      refine awp_ret ?_
      try simp only [thenA_ret, inBlockA_ret]
      refine retA_ret h (by repeat (first | exact Sub.refl _ | assumption | refine Sub.trans_set ?_ (by assumption))) (resPre_tmp (resPre_nil)) ?_
      simp (decide := true) only [Slots.get, if_true, and_true, resOf_one]
      rcases g3 with ⟨e1, e2⟩ | ⟨e1, e2⟩
      · rw [e1, e2]
        rfl
      · rw [← e1]
        simp [e2]
end Go.Proofs.YtikpnhdjjabdmaaDoor

/-
  The arguments of the statements, opened: booleans, texts, integers, pairs of bytes; the wrap that hands on the world's shape.
  Conditions: none.
-/
namespace Go.Proofs.YtikpnhdjjabdmaaDoor
open Go.AM
open Go.ChangeShapes Go.WideShapes Go.ChangeAt Go.RowKit
set_option maxRecDepth 100000

section
variable {H : Type} {enc : TypeId × Value → H} {W : World} {base : Nat} {v : Value} {x : DataW H × List MemPlace}
theorem u8_of {n : Int} (h : (Lit.int .u8 n).wf = true) : ∃ b : UInt8, (b.toNat : Int) = n := by
  have := wf_u8 h
  exact ⟨UInt8.ofNat n.toNat, by rw [UInt8.toNat_ofNat']; omega⟩

theorem arg_str {t : TypeId} (ht : Tryd.prog.underlying t = some .string) (h : ∃ fuel, DataW.trod enc Tryd.prog W 0 (fun _ => true) true fuel t v.cells.toList = some x) (hv : Value.okWide Tryd.prog W .any base t v) :
    ∃ s : List UInt8, VR (fun _ => none) (.str s) v ∧ s.length ≤ 9223372036854775807 := by
  obtain ⟨fuel, hf⟩ := h
  obtain ⟨s, rfl⟩ := okWide_string ht hv
  obtain ⟨s', h, hx, hs⟩ := DataW.trod_string ht hf
  simp [Value.cells] at h
  subst h
  exact ⟨s.data.toList, VR_strArg _ s, str_le hs⟩
theorem arg_b2 (h : ∃ fuel, DataW.trod enc Tryd.prog W 0 (fun _ => true) true fuel 49 v.cells.toList = some x) (hv : Value.okWide Tryd.prog W .any base 49 v) :
    ∃ a b : UInt8, VR (fun _ => none) (.agg [.int .u8 a.toNat, .int .u8 b.toNat]) v := by
  have hw : ∃ cs : Array Value, v = .agg cs := by
    simp only [Value.okWide, Tryd.underlying49] at hv
    obtain ⟨cs, h1, _⟩ := hv
    exact ⟨cs, h1⟩
  obtain ⟨cs, rfl⟩ := hw
  obtain ⟨fuel, hf⟩ := h
  obtain ⟨xs, m, _, _, hl, hn, hc⟩ := DataW.trod_array Tryd.underlying49 hf
  have c3 : Tryd.prog.cellsOf 5 = 1 := by kernel_rfl
  rw [show Tryd.prog.cellsOf 49 = 2 by kernel_rfl] at hl
  have h0 := hc 0 (by omega)
  have h1 := hc 1 (by omega)
  obtain ⟨l⟩ := cs
  match l, hl with
  | [c0, c1], _ =>
    match xs, hn with
    | [y0, y1], _ =>
      simp only [c3, Value.cells, Nat.zero_mul, Nat.one_mul, List.drop_zero, List.drop_succ_cons, List.take_succ_cons, List.take_zero, List.getElem?_cons_zero, List.getElem?_cons_succ] at h0 h1
      obtain ⟨a, e0, _, w0⟩ := DataW.trod_int Tryd.underlying5 h0
      obtain ⟨b, e1, _, w1⟩ := DataW.trod_int Tryd.underlying5 h1
      simp only [List.cons.injEq, and_true] at e0 e1
      subst e0 e1
      obtain ⟨a', rfl⟩ := u8_of w0
      obtain ⟨b', rfl⟩ := u8_of w1
      refine ⟨a', b', ?_⟩
      simp only [VR]
      refine ⟨_, rfl, ?_⟩
      simp only [VRs]
      exact ⟨_, _, rfl, by simp only [VR], _, _, rfl, by simp only [VR], rfl⟩
end

/-- The plain wrap of a row with listed variables, the world's shape handed on. -/
theorem returns_and_shaped {H : Type} {enc : TypeId × Value → H} {a : Assume} {C : Checked} {os : Os} {f : FuncId} {fn : Func} {s : ChangeSpec} {conds : List PathCond} {apart fresh handsOn again : Bool} {X : World → Array Value → Prop}
    (hX : ∀ (w w' : World) (args : Array Value), w.heap = w'.heap → X w args → X w' args)
    (own : ownKnob C.prog.godebug = none) (started : os.Started) (noInit : C.prog.inits.idxOf? f = none) (hfn : C.prog.funcs[f]? = some fn)
    (witness : ∃ (w : World) (tape : Tape) (i : Input), w.os = os ∧ (w.forCall tape i).Shaped C.prog ∧ i.vars = [] ∧ Input.okWide C.prog (w.forCall tape i) .any w.heap.size f i ∧
      ((s.pre enc C.prog fn conds apart (w.forCall tape i).memory i.args ∧ X (w.forCall tape i).memory i.args) ∧ sizedMet enc C.prog fn (OpenSpec.ofChange s) apart (w.forCall tape i).memory i.args) ∧ a.holds C.prog (lone (Frame.enter C.prog f i.args .normal) [] (w.forCall tape i)))
    (contract : ∀ (W : World) (base : Nat) (args : Array Value) (ds gs : List (DataW H)) (before : List MemPlace), W.ShapedOpen C.prog →
      (∀ (j : Nat) t v, fn.params[j]? = some t → args[j]? = some v → Value.okWide C.prog W .any base t v) →
      DataW.Whole enc C.prog fn.params.toList s.vars apart W args.toList ds gs before →
      conds.all (PathCond.test C.prog ⟨fn.params.toList, ds, s.plain.varTypes C.prog, gs⟩) = true →
      (DataW.weightsEach C.prog (fn.params.toList ++ s.plain.varTypes C.prog) (ds ++ gs)).all (· ≤ reachBytes) = true → X W args →
      a.holds C.prog (lone (Frame.enter C.prog f args .normal) [] W) →
      Calls C.prog f args W fun e W' => ∃ v, e = .returned v ∧ s.post enc C.prog fn apart fresh handsOn again W args v W') :
    ReturnsInHanded a C os f .any (fun w args => (s.pre enc C.prog fn conds apart w args ∧ X w args) ∧ sizedMet enc C.prog fn (OpenSpec.ofChange s) apart w args) (s.post enc C.prog fn apart fresh handsOn again) := by
  refine returnsInHanded_of_calls own started noInit witness ?_
  intro w tape i _ hsh _ hok hpre hholds
  obtain ⟨_, _, _, fn', hfn', _, _, _, _, hval⟩ := hok
  have e : fn' = fn := Option.some.inj (hfn'.symm.trans hfn)
  subst e
  obtain ⟨⟨⟨ds, gs, before, hw, hc⟩, hx⟩, hz⟩ := hpre
  have hw' := DataW.Whole.of_heap (w' := w.forCall tape i) (by rfl) hw
  refine (contract (w.forCall tape i) w.heap.size i.args ds gs before hsh hval hw' hc (hz.weights hw) (hX _ _ _ (by rfl) hx) hholds).mono fun e W' ⟨v, he, hp⟩ => ?_
  subst he
  exact ChangeSpec.post_blind hp
end Go.Proofs.YtikpnhdjjabdmaaDoor

/-
  What the world of a statement about columns gives: the listed table, the cell of the longest text.
  Conditions: none.
-/
namespace Go.Proofs.YtikpnhdjjabdmaaDoor
open Go.AM
open Go.ChangeShapes Go.WideShapes Go.ChangeAt Go.RowKit
set_option maxRecDepth 100000
/-- The listed table of powers of ten. -/
theorem tab_of {W : World} {rest : List (String × DataW Unit)} (h : laidMet Tryd.prog (("internal/strconv.uint64pow10", Rows.laid_internal_strconv_uint64pow10) :: rest) W) : Tab10 W :=
  Lib.tabIs_of_head (g := 3) (by kernel_rfl) (by kernel_rfl) (show Tryd.prog.underlying 138 = _ from Tryd.underlying138) Tryd.underlying116 (by kernel_rfl) (by kernel_rfl) h
theorem maxl_of {W : World} (h : W.ShapedOpen Tryd.prog) : MaxL W :=
  cell_of_shapedOpen_int (t := 3) (zero := #[.int .i64 0]) h (of_decide_eq_true (by kernel_rfl)) (by kernel_rfl) rfl (by kernel_rfl) (by kernel_rfl) Tryd.underlying3
end Go.Proofs.YtikpnhdjjabdmaaDoor

