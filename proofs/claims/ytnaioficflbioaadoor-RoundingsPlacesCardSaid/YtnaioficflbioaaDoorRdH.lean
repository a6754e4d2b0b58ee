/-
  The examples of the chapter hold.
  Conditions: none.
-/
import Derived.Test.YtnaioficflbioaaDoorRdG
set_option linter.unusedSimpArgs false
set_option linter.unnecessarySimpa false
set_option linter.unusedVariables false
namespace Go.Proofs.YtnaioficflbioaaDoor
open Go.AM
open Go.Proofs
open Go.Dec
open Go.Lib (decDigits)
set_option maxRecDepth 100000

def exR (i : Nat) : List AVal := (List.range 7).map fun j => .int .i64 (exW i j)
theorem exR_get (i j : Nat) (hj : j < 7) : (exR i).getD j .dead = .int .i64 (exW i j) := by
  simp [exR, List.getD, List.getElem?_range hj]
theorem exW_bound (i j : Nat) (hi : i < 5) (hj : j < 7) : -1000000 ≤ exW i j ∧ exW i j ≤ 1000000 := by
  have : ∀ i : Fin 5, ∀ j : Fin 7, -1000000 ≤ exW i j ∧ exW i j ≤ 1000000 := by decide
  exact this ⟨i, hi⟩ ⟨j, hj⟩
theorem ex_len (i : Nat) (hi : i < 5) : (exD i).dig.length ≤ 9223372036854775807 := by
  have := (Small_of_check (ex_check i hi)).1.l
  omega

theorem canon_len (neg : Bool) (n k : Nat) (hn : n < 10 ^ 62) : (canon neg n k).dig.length ≤ 9223372036854775807 := by
  have := (canon_bound neg n k 62 (by omega) hn).1
  omega
theorem exM_len : exM.dig.length ≤ 9223372036854775807 := canon_len _ _ _ (by decide +kernel)
set_option maxHeartbeats 4000000 in
theorem c_lives (w₀ : World) (ht : Tab10 w₀) (h : AHeap) : ACall Tryd.prog w₀ 13 [] h (fun v h' => v = .bool true ∧ h' = h) := by
  refine acall_intro (n := 140) (rs := [.tmp 0]) Tryd.func13 rfl rfl rfl rfl (Nat.le_of_ble_eq_true rfl) ?_
  simp only [initSlots]
  -- region 0  law.go:19
  refine awp_rseq [] (by rfl) fun K hK => ?_
  simp (decide := true) only [aOps_nil, ev, absV, absS, putD, Slots.put, Slots.keep, if_false, true_and, ↓ap_assign, pop_assign]
  repeat (with_reducible refine And.intro ?_ ?_; · first | trivial | omega | (intro hg; simp only [Bool.and_eq_true, Bool.or_eq_true, Bool.not_eq_true', Bool.and_eq_false_iff, Bool.or_eq_false_iff, Bool.not_eq_false', decide_eq_true_eq, decide_eq_false_iff_not, eqNil] at hg; omega) )
  apply hK; clear hK K
  -- region 1  law.go:20
  refine awp_rseq [1] (by rfl) fun K hK => ?_
  refine aOps_callV (V := decA (exD 0)) (by rfl) (by rfl) ((c_of13 w₀ ht _ 25 1 (by omega) (by omega) (by omega) (by omega)).val rfl) ?_
  refine aOps_callV (V := decA (exD 1)) (by rfl) (by rfl) ((c_of13 w₀ ht _ (-25) 1 (by omega) (by omega) (by omega) (by omega)).val rfl) ?_
  refine aOps_callV (V := decA (exD 2)) (by rfl) (by rfl) ((c_of13 w₀ ht _ 351 2 (by omega) (by omega) (by omega) (by omega)).val rfl) ?_
  refine aOps_callV (V := decA (exD 3)) (by rfl) (by rfl) ((c_of13 w₀ ht _ 4 2 (by omega) (by omega) (by omega) (by omega)).val rfl) ?_
  refine aOps_callV (V := decA (exD 4)) (by rfl) (by rfl) ((c_of13 w₀ ht _ 1250 0 (by omega) (by omega) (by omega) (by omega)).val rfl) ?_
  refine aOps_buildSlice (cs := [.bool (exD 0).neg, .str (exD 0).dig, .int .i64 (exD 0).scale, .bool (exD 1).neg, .str (exD 1).dig, .int .i64 (exD 1).scale, .bool (exD 2).neg, .str (exD 2).dig, .int .i64 (exD 2).scale, .bool (exD 3).neg, .str (exD 3).dig, .int .i64 (exD 3).scale, .bool (exD 4).neg, .str (exD 4).dig, .int .i64 (exD 4).scale]) (by kernel_rfl) fun k1q5 hk1q5 => ?_
  try have hf_1q5 : h k1q5 = none := by first | assumption | (simp only [AHeap.set_none] at hk1q5; simp only [hk1q5])
  simp (decide := true) only [aOps_nil, ev, putD, Slots.put, Slots.get, Slots.keep, if_true, if_false, true_and, ↓ap_assign, pop_assign, decA]
  repeat (with_reducible refine And.intro ?_ ?_; · first | trivial | omega | (intro hg; simp only [Bool.and_eq_true, Bool.or_eq_true, Bool.not_eq_true', Bool.and_eq_false_iff, Bool.or_eq_false_iff, Bool.not_eq_false', decide_eq_true_eq, decide_eq_false_iff_not, eqNil] at hg; omega) )
  apply hK; clear hK K
  -- region 2  law.go:21
  refine awp_rseq [1, 2] (by rfl) fun K hK => ?_
  refine aOps_buildSlice (cs := [.int .i64 0, .int .i64 0, .int .i64 0, .int .i64 1, .int .i64 (-2)]) (by kernel_rfl) fun k2q0 hk2q0 => ?_
  have ne_2q0_1q5 : k2q0 ≠ k1q5 := by simp only [AHeap.set_none] at hk2q0; simp only [hk2q0, ne_eq, not_false_eq_true]
  try have hf_2q0 : h k2q0 = none := by first | assumption | (simp only [AHeap.set_none] at hk2q0; simp only [hk2q0])
  simp (decide := true) only [aOps_nil, ev, putD, Slots.put, Slots.get, Slots.keep, if_true, if_false, true_and, ↓ap_assign, pop_assign]
  repeat (with_reducible refine And.intro ?_ ?_; · first | trivial | omega | (intro hg; simp only [Bool.and_eq_true, Bool.or_eq_true, Bool.not_eq_true', Bool.and_eq_false_iff, Bool.or_eq_false_iff, Bool.not_eq_false', decide_eq_true_eq, decide_eq_false_iff_not, eqNil] at hg; omega) )
  apply hK; clear hK K
  -- region 3  law.go:22
  refine awp_rseq [1, 2, 3] (by rfl) fun K hK => ?_
  refine aOps_buildSlice (cs := [.int .i64 0, .int .i64 0, .int .i64 0, .int .i64 1, .int .i64 0]) (by kernel_rfl) fun k3q0 hk3q0 => ?_
  have ne_3q0_1q5 : k3q0 ≠ k1q5 := by simp only [AHeap.set_none] at hk3q0; simp only [hk3q0, ne_eq, not_false_eq_true]
  have ne_3q0_2q0 : k3q0 ≠ k2q0 := by simp only [AHeap.set_none] at hk3q0; simp only [hk3q0, ne_eq, not_false_eq_true]
  try have hf_3q0 : h k3q0 = none := by first | assumption | (simp only [AHeap.set_none] at hk3q0; simp only [hk3q0])
  simp (decide := true) only [aOps_nil, ev, putD, Slots.put, Slots.get, Slots.keep, if_true, if_false, true_and, ↓ap_assign, pop_assign]
  repeat (with_reducible refine And.intro ?_ ?_; · first | trivial | omega | (intro hg; simp only [Bool.and_eq_true, Bool.or_eq_true, Bool.not_eq_true', Bool.and_eq_false_iff, Bool.or_eq_false_iff, Bool.not_eq_false', decide_eq_true_eq, decide_eq_false_iff_not, eqNil] at hg; omega) )
  apply hK; clear hK K
  -- region 4  law.go:23
  refine awp_rseq [1, 2, 3, 4] (by rfl) fun K hK => ?_
  refine aOps_buildSlice (cs := exR 0) (by kernel_rfl) fun k4q0 hk4q0 => ?_
  have ne_4q0_1q5 : k4q0 ≠ k1q5 := by simp only [AHeap.set_none] at hk4q0; simp only [hk4q0, ne_eq, not_false_eq_true]
  have ne_4q0_2q0 : k4q0 ≠ k2q0 := by simp only [AHeap.set_none] at hk4q0; simp only [hk4q0, ne_eq, not_false_eq_true]
  have ne_4q0_3q0 : k4q0 ≠ k3q0 := by simp only [AHeap.set_none] at hk4q0; simp only [hk4q0, ne_eq, not_false_eq_true]
  try have hf_4q0 : h k4q0 = none := by first | assumption | (simp only [AHeap.set_none] at hk4q0; simp only [hk4q0])
  refine aOps_buildSlice (cs := exR 1) (by kernel_rfl) fun k4q1 hk4q1 => ?_
  have ne_4q1_1q5 : k4q1 ≠ k1q5 := by simp only [AHeap.set_none] at hk4q1; simp only [hk4q1, ne_eq, not_false_eq_true]
  have ne_4q1_2q0 : k4q1 ≠ k2q0 := by simp only [AHeap.set_none] at hk4q1; simp only [hk4q1, ne_eq, not_false_eq_true]
  have ne_4q1_3q0 : k4q1 ≠ k3q0 := by simp only [AHeap.set_none] at hk4q1; simp only [hk4q1, ne_eq, not_false_eq_true]
  have ne_4q1_4q0 : k4q1 ≠ k4q0 := by simp only [AHeap.set_none] at hk4q1; simp only [hk4q1, ne_eq, not_false_eq_true]
  try have hf_4q1 : h k4q1 = none := by first | assumption | (simp only [AHeap.set_none] at hk4q1; simp only [hk4q1])
  refine aOps_buildSlice (cs := exR 2) (by kernel_rfl) fun k4q2 hk4q2 => ?_
  have ne_4q2_1q5 : k4q2 ≠ k1q5 := by simp only [AHeap.set_none] at hk4q2; simp only [hk4q2, ne_eq, not_false_eq_true]
  have ne_4q2_2q0 : k4q2 ≠ k2q0 := by simp only [AHeap.set_none] at hk4q2; simp only [hk4q2, ne_eq, not_false_eq_true]
  have ne_4q2_3q0 : k4q2 ≠ k3q0 := by simp only [AHeap.set_none] at hk4q2; simp only [hk4q2, ne_eq, not_false_eq_true]
  have ne_4q2_4q0 : k4q2 ≠ k4q0 := by simp only [AHeap.set_none] at hk4q2; simp only [hk4q2, ne_eq, not_false_eq_true]
  have ne_4q2_4q1 : k4q2 ≠ k4q1 := by simp only [AHeap.set_none] at hk4q2; simp only [hk4q2, ne_eq, not_false_eq_true]
  try have hf_4q2 : h k4q2 = none := by first | assumption | (simp only [AHeap.set_none] at hk4q2; simp only [hk4q2])
  refine aOps_buildSlice (cs := exR 3) (by kernel_rfl) fun k4q3 hk4q3 => ?_
  have ne_4q3_1q5 : k4q3 ≠ k1q5 := by simp only [AHeap.set_none] at hk4q3; simp only [hk4q3, ne_eq, not_false_eq_true]
  have ne_4q3_2q0 : k4q3 ≠ k2q0 := by simp only [AHeap.set_none] at hk4q3; simp only [hk4q3, ne_eq, not_false_eq_true]
  have ne_4q3_3q0 : k4q3 ≠ k3q0 := by simp only [AHeap.set_none] at hk4q3; simp only [hk4q3, ne_eq, not_false_eq_true]
  have ne_4q3_4q0 : k4q3 ≠ k4q0 := by simp only [AHeap.set_none] at hk4q3; simp only [hk4q3, ne_eq, not_false_eq_true]
  have ne_4q3_4q1 : k4q3 ≠ k4q1 := by simp only [AHeap.set_none] at hk4q3; simp only [hk4q3, ne_eq, not_false_eq_true]
  have ne_4q3_4q2 : k4q3 ≠ k4q2 := by simp only [AHeap.set_none] at hk4q3; simp only [hk4q3, ne_eq, not_false_eq_true]
  try have hf_4q3 : h k4q3 = none := by first | assumption | (simp only [AHeap.set_none] at hk4q3; simp only [hk4q3])
  refine aOps_buildSlice (cs := exR 4) (by kernel_rfl) fun k4q4 hk4q4 => ?_
  have ne_4q4_1q5 : k4q4 ≠ k1q5 := by simp only [AHeap.set_none] at hk4q4; simp only [hk4q4, ne_eq, not_false_eq_true]
  have ne_4q4_2q0 : k4q4 ≠ k2q0 := by simp only [AHeap.set_none] at hk4q4; simp only [hk4q4, ne_eq, not_false_eq_true]
  have ne_4q4_3q0 : k4q4 ≠ k3q0 := by simp only [AHeap.set_none] at hk4q4; simp only [hk4q4, ne_eq, not_false_eq_true]
  have ne_4q4_4q0 : k4q4 ≠ k4q0 := by simp only [AHeap.set_none] at hk4q4; simp only [hk4q4, ne_eq, not_false_eq_true]
  have ne_4q4_4q1 : k4q4 ≠ k4q1 := by simp only [AHeap.set_none] at hk4q4; simp only [hk4q4, ne_eq, not_false_eq_true]
  have ne_4q4_4q2 : k4q4 ≠ k4q2 := by simp only [AHeap.set_none] at hk4q4; simp only [hk4q4, ne_eq, not_false_eq_true]
  have ne_4q4_4q3 : k4q4 ≠ k4q3 := by simp only [AHeap.set_none] at hk4q4; simp only [hk4q4, ne_eq, not_false_eq_true]
  try have hf_4q4 : h k4q4 = none := by first | assumption | (simp only [AHeap.set_none] at hk4q4; simp only [hk4q4])
  refine aOps_buildSlice (cs := [.slice (.own k4q0) 0 7 (.exact 7), .slice (.own k4q1) 0 7 (.exact 7), .slice (.own k4q2) 0 7 (.exact 7), .slice (.own k4q3) 0 7 (.exact 7), .slice (.own k4q4) 0 7 (.exact 7)]) (by kernel_rfl) fun k4q5 hk4q5 => ?_
  have ne_4q5_1q5 : k4q5 ≠ k1q5 := by simp only [AHeap.set_none] at hk4q5; simp only [hk4q5, ne_eq, not_false_eq_true]
  have ne_4q5_2q0 : k4q5 ≠ k2q0 := by simp only [AHeap.set_none] at hk4q5; simp only [hk4q5, ne_eq, not_false_eq_true]
  have ne_4q5_3q0 : k4q5 ≠ k3q0 := by simp only [AHeap.set_none] at hk4q5; simp only [hk4q5, ne_eq, not_false_eq_true]
  have ne_4q5_4q0 : k4q5 ≠ k4q0 := by simp only [AHeap.set_none] at hk4q5; simp only [hk4q5, ne_eq, not_false_eq_true]
  have ne_4q5_4q1 : k4q5 ≠ k4q1 := by simp only [AHeap.set_none] at hk4q5; simp only [hk4q5, ne_eq, not_false_eq_true]
  have ne_4q5_4q2 : k4q5 ≠ k4q2 := by simp only [AHeap.set_none] at hk4q5; simp only [hk4q5, ne_eq, not_false_eq_true]
  have ne_4q5_4q3 : k4q5 ≠ k4q3 := by simp only [AHeap.set_none] at hk4q5; simp only [hk4q5, ne_eq, not_false_eq_true]
  have ne_4q5_4q4 : k4q5 ≠ k4q4 := by simp only [AHeap.set_none] at hk4q5; simp only [hk4q5, ne_eq, not_false_eq_true]
  try have hf_4q5 : h k4q5 = none := by first | assumption | (simp only [AHeap.set_none] at hk4q5; simp only [hk4q5])
  simp (decide := true) only [aOps_nil, ev, putD, Slots.put, Slots.get, Slots.keep, if_true, if_false, true_and, ↓ap_assign, pop_assign]
  repeat (with_reducible refine And.intro ?_ ?_; · first | trivial | omega | (intro hg; simp only [Bool.and_eq_true, Bool.or_eq_true, Bool.not_eq_true', Bool.and_eq_false_iff, Bool.or_eq_false_iff, Bool.not_eq_false', decide_eq_true_eq, decide_eq_false_iff_not, eqNil] at hg; omega) )
  apply hK; clear hK K
  refine awp_seq ?_
  -- region 5  law.go:24
  refine awp_rseq [1, 2, 3, 4, 5] (by rfl) fun K hK => ?_
  simp (decide := true) only [aOps_nil, ev, absV, absS, putD, Slots.put, Slots.keep, if_true, if_false, true_and, ↓ap_assign, pop_assign]
  repeat (with_reducible refine And.intro ?_ ?_; · first | trivial | omega | (intro hg; simp only [Bool.and_eq_true, Bool.or_eq_true, Bool.not_eq_true', Bool.and_eq_false_iff, Bool.or_eq_false_iff, Bool.not_eq_false', decide_eq_true_eq, decide_eq_false_iff_not, eqNil] at hg; omega) )
  apply hK; clear hK K
  refine awp_block ?_
  refine awp_loopG [1, 2, 3, 4, 5] (fun i : Nat => [(1, .slice (.own k1q5) 0 5 (.exact 5)), (2, .slice (.own k2q0) 0 5 (.exact 5)), (3, .slice (.own k3q0) 0 5 (.exact 5)), (4, .slice (.own k4q5) 0 5 (.exact 5)), (5, .int .i64 i)]) (fun i : Nat => ((((((((h.set k1q5 ⟨[.bool (exD 0).neg, .str (exD 0).dig, .int .i64 (exD 0).scale, .bool (exD 1).neg, .str (exD 1).dig, .int .i64 (exD 1).scale, .bool (exD 2).neg, .str (exD 2).dig, .int .i64 (exD 2).scale, .bool (exD 3).neg, .str (exD 3).dig, .int .i64 (exD 3).scale, .bool (exD 4).neg, .str (exD 4).dig, .int .i64 (exD 4).scale], 0⟩).set k2q0 ⟨[.int .i64 0, .int .i64 0, .int .i64 0, .int .i64 1, .int .i64 (-2)], 0⟩).set k3q0 ⟨[.int .i64 0, .int .i64 0, .int .i64 0, .int .i64 1, .int .i64 0], 0⟩).set k4q0 ⟨exR 0, 0⟩).set k4q1 ⟨exR 1, 0⟩).set k4q2 ⟨exR 2, 0⟩).set k4q3 ⟨exR 3, 0⟩).set k4q4 ⟨exR 4, 0⟩).set k4q5 ⟨[.slice (.own k4q0) 0 7 (.exact 7), .slice (.own k4q1) 0 7 (.exact 7), .slice (.own k4q2) 0 7 (.exact 7), .slice (.own k4q3) 0 7 (.exact 7), .slice (.own k4q4) 0 7 (.exact 7)], 0⟩) (fun i : Nat => i ≤ 5) (fun i : Nat => 5 - i) 0 (by rfl) (Sub.refl _) (by omega) ?_
  intro i hi
  refine awp_seq ?_
  -- region 6  law.go:24
  refine awp_rseq [1, 2, 3, 4, 5, 38] (by rfl) fun K hK => ?_
  simp (decide := true) only [aOps_nil, ev, absV, absS, putD, Slots.put, Slots.get, Slots.keep, if_true, if_false, true_and, ↓ap_move, pop_move, ↓ap_binOp, pop_binOp, pBinX_int, pI_lss]
  repeat (with_reducible refine And.intro ?_ ?_; · first | trivial | omega | (intro hg; simp only [Bool.and_eq_true, Bool.or_eq_true, Bool.not_eq_true', Bool.and_eq_false_iff, Bool.or_eq_false_iff, Bool.not_eq_false', decide_eq_true_eq, decide_eq_false_iff_not, eqNil] at hg; omega) )
  apply hK; clear hK K
  refine awp_cond (b := _) rfl (fun hb1 => ?_) (fun hb1 => ?_)
  · try simp only [decide_eq_true_eq] at hb1
    have hi5 : i < 5 := by omega
    obtain ⟨kW, hkW⟩ : ∃ f : Nat → Nat, f = fun i => [k4q0, k4q1, k4q2, k4q3, k4q4].getD i 0 := ⟨_, rfl⟩
    have hd0 : ([.bool (exD 0).neg, .str (exD 0).dig, .int .i64 (exD 0).scale, .bool (exD 1).neg, .str (exD 1).dig, .int .i64 (exD 1).scale, .bool (exD 2).neg, .str (exD 2).dig, .int .i64 (exD 2).scale, .bool (exD 3).neg, .str (exD 3).dig, .int .i64 (exD 3).scale, .bool (exD 4).neg, .str (exD 4).dig, .int .i64 (exD 4).scale] : List AVal).getD (i * 3) .dead = .bool (exD i).neg := by
      match i, hi5 with
      | 0, _ => rfl
      | 1, _ => rfl
      | 2, _ => rfl
      | 3, _ => rfl
      | 4, _ => rfl
    have hd1 : ([.bool (exD 0).neg, .str (exD 0).dig, .int .i64 (exD 0).scale, .bool (exD 1).neg, .str (exD 1).dig, .int .i64 (exD 1).scale, .bool (exD 2).neg, .str (exD 2).dig, .int .i64 (exD 2).scale, .bool (exD 3).neg, .str (exD 3).dig, .int .i64 (exD 3).scale, .bool (exD 4).neg, .str (exD 4).dig, .int .i64 (exD 4).scale] : List AVal).getD (i * 3 + 1) .dead = .str (exD i).dig := by
      match i, hi5 with
      | 0, _ => rfl
      | 1, _ => rfl
      | 2, _ => rfl
      | 3, _ => rfl
      | 4, _ => rfl
    have hd2 : ([.bool (exD 0).neg, .str (exD 0).dig, .int .i64 (exD 0).scale, .bool (exD 1).neg, .str (exD 1).dig, .int .i64 (exD 1).scale, .bool (exD 2).neg, .str (exD 2).dig, .int .i64 (exD 2).scale, .bool (exD 3).neg, .str (exD 3).dig, .int .i64 (exD 3).scale, .bool (exD 4).neg, .str (exD 4).dig, .int .i64 (exD 4).scale] : List AVal).getD (i * 3 + 1 + 1) .dead = .int .i64 (exD i).scale := by
      match i, hi5 with
      | 0, _ => rfl
      | 1, _ => rfl
      | 2, _ => rfl
      | 3, _ => rfl
      | 4, _ => rfl
    have hsc : ([.int .i64 0, .int .i64 0, .int .i64 0, .int .i64 1, .int .i64 (-2)] : List AVal).getD i .dead = .int .i64 (exS i) := by
      match i, hi5 with
      | 0, _ => rfl
      | 1, _ => rfl
      | 2, _ => rfl
      | 3, _ => rfl
      | 4, _ => rfl
    have huc : ([.int .i64 0, .int .i64 0, .int .i64 0, .int .i64 1, .int .i64 0] : List AVal).getD i .dead = .int .i64 (exU i) := by
      match i, hi5 with
      | 0, _ => rfl
      | 1, _ => rfl
      | 2, _ => rfl
      | 3, _ => rfl
      | 4, _ => rfl
    have hwc : ([.slice (.own k4q0) 0 7 (.exact 7), .slice (.own k4q1) 0 7 (.exact 7), .slice (.own k4q2) 0 7 (.exact 7), .slice (.own k4q3) 0 7 (.exact 7), .slice (.own k4q4) 0 7 (.exact 7)] : List AVal).getD i .dead = .slice (.own (kW i)) 0 7 (.exact 7) := by
      rw [hkW]
      match i, hi5 with
      | 0, _ => rfl
      | 1, _ => rfl
      | 2, _ => rfl
      | 3, _ => rfl
      | 4, _ => rfl
    have hSU : -62 ≤ exS i ∧ exS i ≤ 62 ∧ 0 ≤ exU i ∧ exU i ≤ 1 := by
      match i, hi5 with
      | 0, _ => decide
      | 1, _ => decide
      | 2, _ => decide
      | 3, _ => decide
      | 4, _ => decide
    refine awp_skip ?_
    change Awp _ _ _ _ _ _ _
    refine awp_seq ?_
    refine awp_block ?_
    -- region 8  law.go:25
    refine awp_rseq [1, 2, 3, 4, 5, 6] (by rfl) fun K hK => ?_
    simp (decide := true) only [aOps_nil, ev, absV, absS, putD, Slots.put, Slots.keep, if_true, if_false, true_and, ↓ap_assign, pop_assign]
    repeat (with_reducible refine And.intro ?_ ?_; · first | trivial | omega | (intro hg; simp only [Bool.and_eq_true, Bool.or_eq_true, Bool.not_eq_true', Bool.and_eq_false_iff, Bool.or_eq_false_iff, Bool.not_eq_false', decide_eq_true_eq, decide_eq_false_iff_not, eqNil] at hg; omega) )
    apply hK; clear hK K
    refine awp_block ?_
    refine awp_loopG [1, 2, 3, 4, 5, 6] (fun j : Nat => [(1, .slice (.own k1q5) 0 5 (.exact 5)), (2, .slice (.own k2q0) 0 5 (.exact 5)), (3, .slice (.own k3q0) 0 5 (.exact 5)), (4, .slice (.own k4q5) 0 5 (.exact 5)), (5, .int .i64 i), (6, .int .i64 j)]) (fun j : Nat => ((((((((h.set k1q5 ⟨[.bool (exD 0).neg, .str (exD 0).dig, .int .i64 (exD 0).scale, .bool (exD 1).neg, .str (exD 1).dig, .int .i64 (exD 1).scale, .bool (exD 2).neg, .str (exD 2).dig, .int .i64 (exD 2).scale, .bool (exD 3).neg, .str (exD 3).dig, .int .i64 (exD 3).scale, .bool (exD 4).neg, .str (exD 4).dig, .int .i64 (exD 4).scale], 0⟩).set k2q0 ⟨[.int .i64 0, .int .i64 0, .int .i64 0, .int .i64 1, .int .i64 (-2)], 0⟩).set k3q0 ⟨[.int .i64 0, .int .i64 0, .int .i64 0, .int .i64 1, .int .i64 0], 0⟩).set k4q0 ⟨exR 0, 0⟩).set k4q1 ⟨exR 1, 0⟩).set k4q2 ⟨exR 2, 0⟩).set k4q3 ⟨exR 3, 0⟩).set k4q4 ⟨exR 4, 0⟩).set k4q5 ⟨[.slice (.own k4q0) 0 7 (.exact 7), .slice (.own k4q1) 0 7 (.exact 7), .slice (.own k4q2) 0 7 (.exact 7), .slice (.own k4q3) 0 7 (.exact 7), .slice (.own k4q4) 0 7 (.exact 7)], 0⟩) (fun j : Nat => j ≤ 7) (fun j : Nat => 7 - j) 0 (by rfl) (Sub.refl _) (by omega) ?_
    intro j hj
    refine awp_seq ?_
    -- region 9  law.go:25
    refine awp_rseq [1, 2, 3, 4, 5, 6, 42] (by rfl) fun K hK => ?_
    simp (decide := true) only [aOps_nil, ev, absV, absS, putD, Slots.put, Slots.get, Slots.keep, if_true, if_false, true_and, ↓ap_move, pop_move, ↓ap_binOp, pop_binOp, pBinX_int, pI_lss]
    repeat (with_reducible refine And.intro ?_ ?_; · first | trivial | omega | (intro hg; simp only [Bool.and_eq_true, Bool.or_eq_true, Bool.not_eq_true', Bool.and_eq_false_iff, Bool.or_eq_false_iff, Bool.not_eq_false', decide_eq_true_eq, decide_eq_false_iff_not, eqNil] at hg; omega) )
    apply hK; clear hK K
    refine awp_cond (b := _) rfl (fun hb2 => ?_) (fun hb2 => ?_)
    · try simp only [decide_eq_true_eq] at hb2
      have hj7 : j < 7 := by omega
      have hrW : rd w₀ (((((((((h.set k1q5 ⟨[.bool (exD 0).neg, .str (exD 0).dig, .int .i64 (exD 0).scale, .bool (exD 1).neg, .str (exD 1).dig, .int .i64 (exD 1).scale, .bool (exD 2).neg, .str (exD 2).dig, .int .i64 (exD 2).scale, .bool (exD 3).neg, .str (exD 3).dig, .int .i64 (exD 3).scale, .bool (exD 4).neg, .str (exD 4).dig, .int .i64 (exD 4).scale], 0⟩).set k2q0 ⟨[.int .i64 0, .int .i64 0, .int .i64 0, .int .i64 1, .int .i64 (-2)], 0⟩).set k3q0 ⟨[.int .i64 0, .int .i64 0, .int .i64 0, .int .i64 1, .int .i64 0], 0⟩).set k4q0 ⟨exR 0, 0⟩).set k4q1 ⟨exR 1, 0⟩).set k4q2 ⟨exR 2, 0⟩).set k4q3 ⟨exR 3, 0⟩).set k4q4 ⟨exR 4, 0⟩).set k4q5 ⟨[.slice (.own k4q0) 0 7 (.exact 7), .slice (.own k4q1) 0 7 (.exact 7), .slice (.own k4q2) 0 7 (.exact 7), .slice (.own k4q3) 0 7 (.exact 7), .slice (.own k4q4) 0 7 (.exact 7)], 0⟩) (.own (kW i)) j = .int .i64 (exW i j) := by
        rw [hkW]
        match i, hi5 with
        | 0, _ => simp (decide := true) only [List.getD_cons_zero, rd_ne', rd_any, ne_eq, not_false_eq_true, ne_4q1_4q0.symm, ne_4q2_4q0.symm, ne_4q3_4q0.symm, ne_4q4_4q0.symm, ne_4q5_4q0.symm, exR_get _ _ hj7]
        | 1, _ => simp (decide := true) only [List.getD_cons_zero, List.getD_cons_succ, rd_ne', rd_any, ne_eq, not_false_eq_true, ne_4q2_4q1.symm, ne_4q3_4q1.symm, ne_4q4_4q1.symm, ne_4q5_4q1.symm, exR_get _ _ hj7]
        | 2, _ => simp (decide := true) only [List.getD_cons_zero, List.getD_cons_succ, rd_ne', rd_any, ne_eq, not_false_eq_true, ne_4q3_4q2.symm, ne_4q4_4q2.symm, ne_4q5_4q2.symm, exR_get _ _ hj7]
        | 3, _ => simp (decide := true) only [List.getD_cons_zero, List.getD_cons_succ, rd_ne', rd_any, ne_eq, not_false_eq_true, ne_4q4_4q3.symm, ne_4q5_4q3.symm, exR_get _ _ hj7]
        | 4, _ => simp (decide := true) only [List.getD_cons_zero, List.getD_cons_succ, rd_ne', rd_any, ne_eq, not_false_eq_true, ne_4q5_4q4.symm, exR_get _ _ hj7]
      obtain ⟨wb1, wb2⟩ := exW_bound i j hi5 hj7
      refine awp_skip ?_
      change Awp _ _ _ _ _ _ _
      refine awp_seq ?_
      refine awp_block ?_
      -- region 11  law.go:26
      refine awp_dseq_F 15 [13] [1, 2, 3, 4, 5, 6, 7, 8] mixed (by kernel_rfl) (by rfl) fun K hK => ?_
      simp only [List.take_succ_cons, List.take_zero, List.drop_succ_cons, List.drop_zero]
      simp (decide := true) only [ev, putD, Slots.put, Slots.get, if_true, if_false, true_and, ↓fp_move, pop_move, ↓fp_indexAddr, pop_load, pIndexAddr_slice Tryd.underlying68 sz28, pop_indexAddr, ↓fp_load, pLoad_agg ag28 sz28, pIndexAddr_slice Tryd.underlying69 sz3, pLoad_one ag3, ↓fp_convert _ _ _ (es_int Tryd.underlying3 Tryd.underlying35), pop_convert, pConv_int Tryd.underlying3 Tryd.underlying35, rd_ne', ne_eq, not_false_eq_true, ne_2q0_1q5.symm, ne_3q0_1q5.symm, ne_3q0_2q0.symm, ne_4q0_1q5.symm, ne_4q0_2q0.symm, ne_4q1_1q5.symm, ne_4q1_2q0.symm, ne_4q2_1q5.symm, ne_4q2_2q0.symm, ne_4q3_1q5.symm, ne_4q3_2q0.symm, ne_4q4_1q5.symm, ne_4q4_2q0.symm, ne_4q5_1q5.symm, ne_4q5_2q0.symm, rd_any, cellsAt, Nat.zero_add, lv_bool, lv_int, lv_str, allLive, Bool.and_true, Int.toNat_natCast, Nat.mul_one, hd0, hd1, hd2, hsc]
      try simp (disch := omega) only [wrap_u8]
      repeat (with_reducible refine And.intro ?_ ?_; · first | trivial | omega | (intro hg; simp only [Bool.and_eq_true, Bool.or_eq_true, Bool.not_eq_true', Bool.and_eq_false_iff, Bool.or_eq_false_iff, Bool.not_eq_false', decide_eq_true_eq, decide_eq_false_iff_not, eqNil] at hg; omega) )
      refine fOps_callV (V := .tuple [decA (canon (decide (exW i j < 0)) (exW i j).natAbs (exU i).toNat), .int .i64 0]) (by rfl) (by rfl) (by first | trivial | (simp (decide := true) only [AVal.okIn, okInL, and_true, true_and, decA, AHeap.set_same, Option.isSome_some]; done) | (simp [AVal.okIn, okInL, AHeap.set]; done)) (fun g hg => (c_Round w₀ _ (exD i) (exS i) j (ex_len i hi5) (by omega) (by omega) (by omega)).val (by rw [ex_round i hi5 j hj7])) ?_
      simp (decide := true) only [ev, putD, Slots.put, Slots.get, if_true, if_false, true_and, ↓fp_move, pop_move, ↓fp_extract, pop_extract, pExt_tuple, List.length_cons, List.length_nil, List.getD_cons_zero, List.getD_cons_succ, List.getD_cons_zero, List.getD_cons_succ, Nat.zero_add, Nat.reduceAdd, decA]
      repeat (with_reducible refine And.intro ?_ ?_; · first | trivial | omega | (intro hg; simp only [Bool.and_eq_true, Bool.or_eq_true, Bool.not_eq_true', Bool.and_eq_false_iff, Bool.or_eq_false_iff, Bool.not_eq_false', decide_eq_true_eq, decide_eq_false_iff_not, eqNil] at hg; omega) )
      refine fOps_lay (by rfl) ?_
      refine aOps_alloc ze28 (cs := [.bool false, .str [], .int .i64 0]) (by rfl) fun k11q14 hk11q14 => ?_
      have ne_11q14_1q5 : k11q14 ≠ k1q5 := by simp only [AHeap.set_none] at hk11q14; simp only [hk11q14, ne_eq, not_false_eq_true]
      have ne_11q14_2q0 : k11q14 ≠ k2q0 := by simp only [AHeap.set_none] at hk11q14; simp only [hk11q14, ne_eq, not_false_eq_true]
      have ne_11q14_3q0 : k11q14 ≠ k3q0 := by simp only [AHeap.set_none] at hk11q14; simp only [hk11q14, ne_eq, not_false_eq_true]
      have ne_11q14_4q0 : k11q14 ≠ k4q0 := by simp only [AHeap.set_none] at hk11q14; simp only [hk11q14, ne_eq, not_false_eq_true]
      have ne_11q14_4q1 : k11q14 ≠ k4q1 := by simp only [AHeap.set_none] at hk11q14; simp only [hk11q14, ne_eq, not_false_eq_true]
      have ne_11q14_4q2 : k11q14 ≠ k4q2 := by simp only [AHeap.set_none] at hk11q14; simp only [hk11q14, ne_eq, not_false_eq_true]
      have ne_11q14_4q3 : k11q14 ≠ k4q3 := by simp only [AHeap.set_none] at hk11q14; simp only [hk11q14, ne_eq, not_false_eq_true]
      have ne_11q14_4q4 : k11q14 ≠ k4q4 := by simp only [AHeap.set_none] at hk11q14; simp only [hk11q14, ne_eq, not_false_eq_true]
      have ne_11q14_4q5 : k11q14 ≠ k4q5 := by simp only [AHeap.set_none] at hk11q14; simp only [hk11q14, ne_eq, not_false_eq_true]
      try have hf_11q14 : h k11q14 = none := by first | assumption | (simp only [AHeap.set_none] at hk11q14; simp only [hk11q14])
      have hkn : kW i ≠ k11q14 := by
        rw [hkW]
        match i, hi5 with
        | 0, _ => exact ne_11q14_4q0.symm
        | 1, _ => exact ne_11q14_4q1.symm
        | 2, _ => exact ne_11q14_4q2.symm
        | 3, _ => exact ne_11q14_4q3.symm
        | 4, _ => exact ne_11q14_4q4.symm
      rw [aOps_nil]
      repeat (with_reducible refine And.intro ?_ ?_; · first | trivial | omega | (intro hg; simp only [Bool.and_eq_true, Bool.or_eq_true, Bool.not_eq_true', Bool.and_eq_false_iff, Bool.or_eq_false_iff, Bool.not_eq_false', decide_eq_true_eq, decide_eq_false_iff_not, eqNil] at hg; omega) )
      try simp only [fOps_nil]
      refine aOps_store (by rfl) (by rfl) (by repeat (first | exact AHeap.set_same _ _ _ | assumption | refine (AHeap.set_ne _ _ (by first | assumption | exact Ne.symm (by assumption))).trans ?_)) sz28 (by rfl) (by rfl) (by first | exact Nat.le_refl _ | decide | (simp; done) | (simp; omega)) (Nat.zero_le _) (by rfl) ?_
      simp only [AHeap.set_set, AVal.cells]
      simp (decide := true) only [aOps_nil, ev, putD, Slots.put, Slots.get, Slots.keep, if_true, if_false, true_and, ↓ap_assign, pop_assign, setAt, List.set_cons_zero, List.set_cons_succ, Nat.zero_add, Nat.reduceAdd]
      repeat (with_reducible refine And.intro ?_ ?_; · first | trivial | omega | (intro hg; simp only [Bool.and_eq_true, Bool.or_eq_true, Bool.not_eq_true', Bool.and_eq_false_iff, Bool.or_eq_false_iff, Bool.not_eq_false', decide_eq_true_eq, decide_eq_false_iff_not, eqNil] at hg; omega) )
      apply hK; clear hK K
      -- region 12  law.go:27
      refine awp_dseq_any [1, 2, 3, 4, 5, 6, 76] mixed (by kernel_rfl) (by rfl) fun K hK => ?_
      simp (decide := true) only [ev, absV, absS, putD, Slots.put, Slots.get, if_true, if_false, true_and, ↓vp_move, pop_move, ↓vp_binOp, pop_binOp, pBinX_int, pI_neq, ↓vg_load, pop_load, vgQ_some, pop_indexAddr, vgP, nthDst, gKnown_bool, guardB_bool_false, implies_true, decide_true, Bool.not_false, Bool.not_true, condV_true, forall_const, Bool.and_true, pLoad_agg ag28 sz28, ↓vg_move, ↓vg_indexAddr, pIndexAddr_slice Tryd.underlying70 sz69, pLoad_one ag69, pIndexAddr_slice Tryd.underlying69 sz3, pLoad_one ag3, rd_ne', ne_eq, not_false_eq_true, ne_4q0_3q0.symm, ne_4q1_3q0.symm, ne_4q2_3q0.symm, ne_4q3_3q0.symm, ne_4q4_3q0.symm, ne_4q5_3q0.symm, ne_11q14_3q0.symm, ne_11q14_4q5.symm, rd_any, cellsAt, List.getD_cons_zero, List.getD_cons_succ, Nat.zero_add, Nat.reduceAdd, lv_bool, lv_int, lv_str, lv_slice, allLive, Bool.and_true, Int.toNat_natCast, Nat.mul_one, huc, hwc, hrW, hkn]
      repeat (with_reducible refine And.intro ?_ ?_; · first | trivial | omega | (intro hg; simp only [Bool.and_eq_true, Bool.or_eq_true, Bool.not_eq_true', Bool.and_eq_false_iff, Bool.or_eq_false_iff, Bool.not_eq_false', decide_eq_true_eq, decide_eq_false_iff_not, eqNil] at hg; omega) )
      refine vOps_gcall (V := decA (canon (decide (exW i j < 0)) (exW i j).natAbs (exU i).toNat)) (f := _) (cap := _) (xs := _) rfl (fun hg => ⟨rfl, ?_⟩) (fun hg => c_of13 w₀ ht _ (exW i j) (exU i) (by omega) (by omega) (by omega) (by omega)) ?_
      · try simp (decide := true) only [gv, nthDst, Slots.get, if_true, if_false, guardB_bool_false] at hg
        simp (decide := true) only [evs, ev, Slots.get, if_true, if_false, List.append_nil, List.map_cons, List.map_nil]
      simp (decide := true) only [vOps_nil, ev, absV, absS, putD, Slots.put, Slots.get, Slots.keep, if_true, if_false, true_and, gv, nthDst, guardB_bool_false, ↓vg_binOp, pop_binOp, vgP, vgQ_some, gKnown_bool, implies_true, decide_true, Bool.not_false, condV_true, Bool.and_true, Bool.false_or, pBinX_agg, ne28, ↓vp_pick, pop_pick, pPick_bool, pickV_or, Bool.and_true, decA]
      repeat (with_reducible refine And.intro ?_ ?_; · first | trivial | omega | (intro hg; simp only [Bool.and_eq_true, Bool.or_eq_true, Bool.not_eq_true', Bool.and_eq_false_iff, Bool.or_eq_false_iff, Bool.not_eq_false', decide_eq_true_eq, decide_eq_false_iff_not, eqNil] at hg; omega) )
      apply hK; clear hK K
      refine awp_cond (b := _) rfl (fun hb3 => ?_) (fun hb3 => ?_)
      · try simp only [Bool.not_eq_true'] at hb3
        exfalso; simp at hb3
      · try simp only [Bool.not_eq_false'] at hb3
        refine awp_skip ?_
        change Awp _ _ _ _ _ _ _
        -- region 10  law.go:25
        refine awp_r [1, 2, 3, 4, 5, 6] (by rfl) ?_
        simp (decide := true) only [aOps_nil, ev, absV, absS, putD, Slots.put, Slots.get, Slots.keep, if_true, if_false, true_and, ↓ap_move, pop_move, ↓ap_binOp, pop_binOp, pBinX_int, pI_add, ↓ap_assign, pop_assign]
        try simp (disch := omega) only [wrap_i64]
        repeat (with_reducible refine And.intro ?_ ?_; · first | trivial | omega | (intro hg; simp only [Bool.and_eq_true, Bool.or_eq_true, Bool.not_eq_true', Bool.and_eq_false_iff, Bool.or_eq_false_iff, Bool.not_eq_false', decide_eq_true_eq, decide_eq_false_iff_not, eqNil] at hg; omega) )
        try simp only [thenA_normal]
        refine ⟨j + 1, rfl, (by repeat (first | exact Sub.refl _ | refine Sub.trans_set ?_ (by simp only [AHeap.set_none] at hk11q14; simp only [AHeap.set_none, hk11q14, ne_eq, not_false_eq_true, and_true]))), by omega, by omega⟩
    · try simp only [decide_eq_false_iff_not] at hb2
      refine awp_exit ?_
      change Awp _ _ _ _ _ _ _
      -- region 7  law.go:24
      refine awp_r [1, 2, 3, 4, 5] (by rfl) ?_
      simp (decide := true) only [aOps_nil, ev, absV, absS, putD, Slots.put, Slots.get, Slots.keep, if_true, if_false, true_and, ↓ap_move, pop_move, ↓ap_binOp, pop_binOp, pBinX_int, pI_add, ↓ap_assign, pop_assign]
      try simp (disch := omega) only [wrap_i64]
      repeat (with_reducible refine And.intro ?_ ?_; · first | trivial | omega | (intro hg; simp only [Bool.and_eq_true, Bool.or_eq_true, Bool.not_eq_true', Bool.and_eq_false_iff, Bool.or_eq_false_iff, Bool.not_eq_false', decide_eq_true_eq, decide_eq_false_iff_not, eqNil] at hg; omega) )
      try simp only [thenA_normal]
      refine ⟨i + 1, rfl, Sub.refl _, by omega, by omega⟩
  · try simp only [decide_eq_false_iff_not] at hb1
    refine awp_exit ?_
    change Awp _ _ _ _ _ _ _
    -- region 14  law.go:32
    refine awp_rseq [10] (by rfl) fun K hK => ?_
    simp (decide := true) only [ev, absV, absS, putD, Slots.put, Slots.get, if_true, if_false, true_and, ↓ap_move, pop_move, ↓ap_indexAddrL, apL_mk, pIndexAddr_slice Tryd.underlying68 sz28, ↓ap_loadL, pLoad_agg ag28 sz28, rd_ne', ne_eq, not_false_eq_true, ne_2q0_1q5.symm, ne_3q0_1q5.symm, ne_4q0_1q5.symm, ne_4q1_1q5.symm, ne_4q2_1q5.symm, ne_4q3_1q5.symm, ne_4q4_1q5.symm, ne_4q5_1q5.symm, rd_any, cellsAt, List.getD_cons_succ, Nat.zero_add, allLive, Bool.and_true]
    repeat (with_reducible refine And.intro ?_ ?_; · first | trivial | omega | (intro hg; simp only [Bool.and_eq_true, Bool.or_eq_true, Bool.not_eq_true', Bool.and_eq_false_iff, Bool.or_eq_false_iff, Bool.not_eq_false', decide_eq_true_eq, decide_eq_false_iff_not, eqNil] at hg; omega) )
    refine aOps_callV (V := .tuple [decA noD, .int .i64 14]) (by rfl) (by rfl) ((c_Round w₀ _ (exD 0) 0 7 (ex_len 0 (by omega)) (by omega) (by omega) (by omega)).val (by rw [ex_prohibited])) ?_
    simp (decide := true) only [ev, putD, Slots.put, Slots.get, if_true, if_false, true_and, ↓ap_move, pop_move, ↓ap_extract, pop_extract, pExt_tuple, List.getD_cons_zero, List.getD_cons_succ, List.getD_cons_zero, List.getD_cons_succ, decA]
    repeat (with_reducible refine And.intro ?_ ?_; · first | trivial | omega | (intro hg; simp only [Bool.and_eq_true, Bool.or_eq_true, Bool.not_eq_true', Bool.and_eq_false_iff, Bool.or_eq_false_iff, Bool.not_eq_false', decide_eq_true_eq, decide_eq_false_iff_not, eqNil] at hg; omega) )
    refine aOps_alloc ze28 (cs := [.bool false, .str [], .int .i64 0]) (by rfl) fun k14q7 hk14q7 => ?_
    have ne_14q7_1q5 : k14q7 ≠ k1q5 := by simp only [AHeap.set_none] at hk14q7; simp only [hk14q7, ne_eq, not_false_eq_true]
    have ne_14q7_2q0 : k14q7 ≠ k2q0 := by simp only [AHeap.set_none] at hk14q7; simp only [hk14q7, ne_eq, not_false_eq_true]
    have ne_14q7_3q0 : k14q7 ≠ k3q0 := by simp only [AHeap.set_none] at hk14q7; simp only [hk14q7, ne_eq, not_false_eq_true]
    have ne_14q7_4q0 : k14q7 ≠ k4q0 := by simp only [AHeap.set_none] at hk14q7; simp only [hk14q7, ne_eq, not_false_eq_true]
    have ne_14q7_4q1 : k14q7 ≠ k4q1 := by simp only [AHeap.set_none] at hk14q7; simp only [hk14q7, ne_eq, not_false_eq_true]
    have ne_14q7_4q2 : k14q7 ≠ k4q2 := by simp only [AHeap.set_none] at hk14q7; simp only [hk14q7, ne_eq, not_false_eq_true]
    have ne_14q7_4q3 : k14q7 ≠ k4q3 := by simp only [AHeap.set_none] at hk14q7; simp only [hk14q7, ne_eq, not_false_eq_true]
    have ne_14q7_4q4 : k14q7 ≠ k4q4 := by simp only [AHeap.set_none] at hk14q7; simp only [hk14q7, ne_eq, not_false_eq_true]
    have ne_14q7_4q5 : k14q7 ≠ k4q5 := by simp only [AHeap.set_none] at hk14q7; simp only [hk14q7, ne_eq, not_false_eq_true]
    try have hf_14q7 : h k14q7 = none := by first | assumption | (simp only [AHeap.set_none] at hk14q7; simp only [hk14q7])
    refine aOps_store (by rfl) (by rfl) (by repeat (first | exact AHeap.set_same _ _ _ | assumption | refine (AHeap.set_ne _ _ (by first | assumption | exact Ne.symm (by assumption))).trans ?_)) sz28 (by rfl) (by rfl) (by first | exact Nat.le_refl _ | decide | (simp; done) | (simp; omega)) (Nat.zero_le _) (by rfl) ?_
    simp only [AHeap.set_set, AVal.cells]
    simp (decide := true) only [aOps_nil, ev, putD, Slots.put, Slots.get, Slots.keep, if_true, if_false, true_and, ↓ap_assign, pop_assign, setAt, List.set_cons_zero, List.set_cons_succ, Nat.zero_add, Nat.reduceAdd]
    repeat (with_reducible refine And.intro ?_ ?_; · first | trivial | omega | (intro hg; simp only [Bool.and_eq_true, Bool.or_eq_true, Bool.not_eq_true', Bool.and_eq_false_iff, Bool.or_eq_false_iff, Bool.not_eq_false', decide_eq_true_eq, decide_eq_false_iff_not, eqNil] at hg; omega) )
    apply hK; clear hK K
    -- region 15  law.go:33
    refine awp_rseq [10, 11] (by rfl) fun K hK => ?_
    refine aOps_callV (V := decA exM) (by rfl) (by rfl) ((c_of13 w₀ ht _ (-125) 1 (by omega) (by omega) (by omega) (by omega)).val rfl) ?_
    refine aOps_callV (V := .tuple [.bool true, .int .i64 0]) (by rfl) (by rfl) ((c_Fits w₀ _ exM 3 1 exM_len (by omega) (by omega)).val (by rw [ex_fits1])) ?_
    simp (decide := true) only [aOps_nil, ev, putD, Slots.put, Slots.get, Slots.keep, if_true, if_false, true_and, ↓ap_move, pop_move, ↓ap_extract, pop_extract, pExt_tuple, List.getD_cons_zero, List.getD_cons_succ, ↓ap_assign, pop_assign, List.getD_cons_zero, List.getD_cons_succ, decA]
    repeat (with_reducible refine And.intro ?_ ?_; · first | trivial | omega | (intro hg; simp only [Bool.and_eq_true, Bool.or_eq_true, Bool.not_eq_true', Bool.and_eq_false_iff, Bool.or_eq_false_iff, Bool.not_eq_false', decide_eq_true_eq, decide_eq_false_iff_not, eqNil] at hg; omega) )
    apply hK; clear hK K
    -- region 16  law.go:34
    refine awp_rseq [10, 11, 13] (by rfl) fun K hK => ?_
    refine aOps_callV (V := decA exM) (by rfl) (by rfl) ((c_of13 w₀ ht _ (-125) 1 (by omega) (by omega) (by omega) (by omega)).val rfl) ?_
    refine aOps_callV (V := .tuple [.bool false, .int .i64 0]) (by rfl) (by rfl) ((c_Fits w₀ _ exM 2 1 exM_len (by omega) (by omega)).val (by rw [ex_fits2])) ?_
    simp (decide := true) only [aOps_nil, ev, putD, Slots.put, Slots.get, Slots.keep, if_true, if_false, true_and, ↓ap_move, pop_move, ↓ap_extract, pop_extract, pExt_tuple, List.getD_cons_zero, List.getD_cons_succ, ↓ap_assign, pop_assign, List.getD_cons_zero, List.getD_cons_succ, decA]
    repeat (with_reducible refine And.intro ?_ ?_; · first | trivial | omega | (intro hg; simp only [Bool.and_eq_true, Bool.or_eq_true, Bool.not_eq_true', Bool.and_eq_false_iff, Bool.or_eq_false_iff, Bool.not_eq_false', decide_eq_true_eq, decide_eq_false_iff_not, eqNil] at hg; omega) )
    apply hK; clear hK K
    -- region 17  law.go:35
    refine awp_rseq [10, 11, 13, 15] (by rfl) fun K hK => ?_
    refine aOps_callV (V := decA exM) (by rfl) (by rfl) ((c_of13 w₀ ht _ (-125) 1 (by omega) (by omega) (by omega) (by omega)).val rfl) ?_
    refine aOps_callV (V := .tuple [decA (canon true 25 1), .int .i64 0]) (by rfl) (by rfl) ((c_Low w₀ _ exM 2 1 exM_len (by omega) (by omega)).val (by rw [ex_low])) ?_
    simp (decide := true) only [ev, putD, Slots.put, Slots.get, if_true, if_false, true_and, ↓ap_move, pop_move, ↓ap_extract, pop_extract, pExt_tuple, List.getD_cons_zero, List.getD_cons_succ, List.getD_cons_zero, List.getD_cons_succ, decA]
    repeat (with_reducible refine And.intro ?_ ?_; · first | trivial | omega | (intro hg; simp only [Bool.and_eq_true, Bool.or_eq_true, Bool.not_eq_true', Bool.and_eq_false_iff, Bool.or_eq_false_iff, Bool.not_eq_false', decide_eq_true_eq, decide_eq_false_iff_not, eqNil] at hg; omega) )
    refine aOps_alloc ze28 (cs := [.bool false, .str [], .int .i64 0]) (by rfl) fun k17q5 hk17q5 => ?_
    have ne_17q5_1q5 : k17q5 ≠ k1q5 := by simp only [AHeap.set_none] at hk17q5; simp only [hk17q5, ne_eq, not_false_eq_true]
    have ne_17q5_2q0 : k17q5 ≠ k2q0 := by simp only [AHeap.set_none] at hk17q5; simp only [hk17q5, ne_eq, not_false_eq_true]
    have ne_17q5_3q0 : k17q5 ≠ k3q0 := by simp only [AHeap.set_none] at hk17q5; simp only [hk17q5, ne_eq, not_false_eq_true]
    have ne_17q5_4q0 : k17q5 ≠ k4q0 := by simp only [AHeap.set_none] at hk17q5; simp only [hk17q5, ne_eq, not_false_eq_true]
    have ne_17q5_4q1 : k17q5 ≠ k4q1 := by simp only [AHeap.set_none] at hk17q5; simp only [hk17q5, ne_eq, not_false_eq_true]
    have ne_17q5_4q2 : k17q5 ≠ k4q2 := by simp only [AHeap.set_none] at hk17q5; simp only [hk17q5, ne_eq, not_false_eq_true]
    have ne_17q5_4q3 : k17q5 ≠ k4q3 := by simp only [AHeap.set_none] at hk17q5; simp only [hk17q5, ne_eq, not_false_eq_true]
    have ne_17q5_4q4 : k17q5 ≠ k4q4 := by simp only [AHeap.set_none] at hk17q5; simp only [hk17q5, ne_eq, not_false_eq_true]
    have ne_17q5_4q5 : k17q5 ≠ k4q5 := by simp only [AHeap.set_none] at hk17q5; simp only [hk17q5, ne_eq, not_false_eq_true]
    have ne_17q5_14q7 : k17q5 ≠ k14q7 := by simp only [AHeap.set_none] at hk17q5; simp only [hk17q5, ne_eq, not_false_eq_true]
    try have hf_17q5 : h k17q5 = none := by first | assumption | (simp only [AHeap.set_none] at hk17q5; simp only [hk17q5])
    refine aOps_store (by rfl) (by rfl) (by repeat (first | exact AHeap.set_same _ _ _ | assumption | refine (AHeap.set_ne _ _ (by first | assumption | exact Ne.symm (by assumption))).trans ?_)) sz28 (by rfl) (by rfl) (by first | exact Nat.le_refl _ | decide | (simp; done) | (simp; omega)) (Nat.zero_le _) (by rfl) ?_
    simp only [AHeap.set_set, AVal.cells]
    simp (decide := true) only [aOps_nil, ev, putD, Slots.put, Slots.get, Slots.keep, if_true, if_false, true_and, ↓ap_assign, pop_assign, setAt, List.set_cons_zero, List.set_cons_succ, Nat.zero_add, Nat.reduceAdd]
    repeat (with_reducible refine And.intro ?_ ?_; · first | trivial | omega | (intro hg; simp only [Bool.and_eq_true, Bool.or_eq_true, Bool.not_eq_true', Bool.and_eq_false_iff, Bool.or_eq_false_iff, Bool.not_eq_false', decide_eq_true_eq, decide_eq_false_iff_not, eqNil] at hg; omega) )
    apply hK; clear hK K
    -- region 18  law.go:36
    refine awp_rseq [10, 11, 13, 15, 17] (by rfl) fun K hK => ?_
    refine aOps_callV (V := decA exM) (by rfl) (by rfl) ((c_of13 w₀ ht _ (-125) 1 (by omega) (by omega) (by omega) (by omega)).val rfl) ?_
    refine aOps_callV (V := .tuple [.str [48, 49, 50, 53], .int .i64 0]) (by rfl) (by rfl) ((c_Digits w₀ _ exM 4 1 exM_len (by omega) (by omega)).val (by rw [ex_dig1])) ?_
    simp (decide := true) only [aOps_nil, ev, putD, Slots.put, Slots.get, Slots.keep, if_true, if_false, true_and, ↓ap_move, pop_move, ↓ap_extract, pop_extract, pExt_tuple, List.getD_cons_zero, List.getD_cons_succ, ↓ap_assign, pop_assign, List.getD_cons_zero, List.getD_cons_succ, decA]
    repeat (with_reducible refine And.intro ?_ ?_; · first | trivial | omega | (intro hg; simp only [Bool.and_eq_true, Bool.or_eq_true, Bool.not_eq_true', Bool.and_eq_false_iff, Bool.or_eq_false_iff, Bool.not_eq_false', decide_eq_true_eq, decide_eq_false_iff_not, eqNil] at hg; omega) )
    apply hK; clear hK K
    -- region 19  law.go:37
    refine awp_rseq [10, 11, 13, 15, 17, 19] (by rfl) fun K hK => ?_
    refine aOps_callV (V := decA (canon false 1200 0)) (by rfl) (by rfl) ((c_of13 w₀ ht _ 1200 0 (by omega) (by omega) (by omega) (by omega)).val rfl) ?_
    refine aOps_callV (V := .tuple [.str [48, 49, 50], .int .i64 0]) (by rfl) (by rfl) ((c_Digits w₀ _ (canon false 1200 0) 3 (-2) (canon_len _ _ _ (by decide +kernel)) (by omega) (by omega)).val (by rw [ex_dig2])) ?_
    simp (decide := true) only [aOps_nil, ev, putD, Slots.put, Slots.get, Slots.keep, if_true, if_false, true_and, ↓ap_move, pop_move, ↓ap_extract, pop_extract, pExt_tuple, List.getD_cons_zero, List.getD_cons_succ, ↓ap_assign, pop_assign, List.getD_cons_zero, List.getD_cons_succ, decA]
    repeat (with_reducible refine And.intro ?_ ?_; · first | trivial | omega | (intro hg; simp only [Bool.and_eq_true, Bool.or_eq_true, Bool.not_eq_true', Bool.and_eq_false_iff, Bool.or_eq_false_iff, Bool.not_eq_false', decide_eq_true_eq, decide_eq_false_iff_not, eqNil] at hg; omega) )
    apply hK; clear hK K
    -- region 20  law.go:38
    refine awp_rseq [10, 11, 13, 15, 17, 19, 21] (by rfl) fun K hK => ?_
    refine aOps_callV (V := decA (canon false 5 3)) (by rfl) (by rfl) ((c_of13 w₀ ht _ 5 3 (by omega) (by omega) (by omega) (by omega)).val rfl) ?_
    refine aOps_callV (V := .tuple [.str [53], .int .i64 0]) (by rfl) (by rfl) ((c_Digits w₀ _ (canon false 5 3) 1 3 (canon_len _ _ _ (by decide +kernel)) (by omega) (by omega)).val (by rw [ex_dig3])) ?_
    simp (decide := true) only [aOps_nil, ev, putD, Slots.put, Slots.get, Slots.keep, if_true, if_false, true_and, ↓ap_move, pop_move, ↓ap_extract, pop_extract, pExt_tuple, List.getD_cons_zero, List.getD_cons_succ, ↓ap_assign, pop_assign, List.getD_cons_zero, List.getD_cons_succ, decA]
    repeat (with_reducible refine And.intro ?_ ?_; · first | trivial | omega | (intro hg; simp only [Bool.and_eq_true, Bool.or_eq_true, Bool.not_eq_true', Bool.and_eq_false_iff, Bool.or_eq_false_iff, Bool.not_eq_false', decide_eq_true_eq, decide_eq_false_iff_not, eqNil] at hg; omega) )
    apply hK; clear hK K
    -- region 21  law.go:39
    refine awp_dseq_any [0] mixed (by kernel_rfl) (by rfl) fun K hK => ?_
    simp (decide := true) only [ev, absV, absS, putD, Slots.put, Slots.get, if_true, if_false, true_and, ↓vp_move, pop_move, ↓vp_binOp, pop_binOp, pBinX_int, pI_eql, ↓vg_move, vgP, vgQ_some, nthDst, gKnown_bool, guardB_bool_true, implies_true, decide_true, Bool.not_false, condV_true, Bool.and_true, ↓vp_pick, pop_pick, pPick_bool, pickV_and, ↓vg_unOp, pop_unOp, pU_not, ↓vg_load, pop_load, pLoad_agg ag28 sz28, rd_any, cellsAt, List.getD_cons_zero, List.getD_cons_succ, Nat.zero_add, Nat.reduceAdd, lv_bool, lv_int, lv_str, allLive, Bool.and_true, Bool.and_true, decide_true]
    try simp (disch := omega) only [wrap_i64, wrap_u8]
    repeat (with_reducible refine And.intro ?_ ?_; · first | trivial | omega | (intro hg; simp only [Bool.and_eq_true, Bool.or_eq_true, Bool.not_eq_true', Bool.and_eq_false_iff, Bool.or_eq_false_iff, Bool.not_eq_false', decide_eq_true_eq, decide_eq_false_iff_not, eqNil] at hg; omega) )
    refine vOps_gcall (V := decA (canon true 25 1)) (f := _) (cap := _) (xs := _) rfl (fun hg => ⟨rfl, ?_⟩) (fun hg => (c_of13 w₀ ht _ (-25) 1 (by omega) (by omega) (by omega) (by omega)).val rfl) ?_
    · try simp (decide := true) only [gv, nthDst, Slots.get, if_true, if_false, guardB_bool_true] at hg
      simp (decide := true) only [evs, ev, List.append_nil, List.map_cons, List.map_nil, absV, absS]
    simp (decide := true) only [vOps_nil, ev, absV, absS, putD, Slots.put, Slots.get, Slots.keep, if_true, if_false, true_and, gv, nthDst, guardB_bool_true, ↓vg_binOp, pop_binOp, vgP, vgQ_some, gKnown_bool, implies_true, decide_true, condV_true, Bool.and_true, pBinX_agg, eq28, ↓vp_pick, pop_pick, pPick_bool, pickV_and, ↓vp_move, pop_move, ↓vg_move, pBinX_str, pS_eql, ↓vp_assign, pop_assign, Bool.and_true, decA, beq_self_eq_true, Bool.and_true, decide_true]
    repeat (with_reducible refine And.intro ?_ ?_; · first | trivial | omega | (intro hg; simp only [Bool.and_eq_true, Bool.or_eq_true, Bool.not_eq_true', Bool.and_eq_false_iff, Bool.or_eq_false_iff, Bool.not_eq_false', decide_eq_true_eq, decide_eq_false_iff_not, eqNil] at hg; omega) )
    apply hK; clear hK K
    refine awp_ret ?_
    try simp only [thenA_ret, inBlockA_ret]
    refine retA_ret h (by repeat (first | exact Sub.refl _ | refine Sub.trans_set ?_ (by assumption))) (resPre_tmp (resPre_nil)) ?_
    simp (decide := true) only [Slots.get, if_true, and_true, resOf_one]
    all_goals first | rfl | exact ⟨rfl, rfl⟩ | (simp (decide := true) only [if_true, if_false, *]; done) | (trace_state; fail)
end Go.Proofs.YtnaioficflbioaaDoor
