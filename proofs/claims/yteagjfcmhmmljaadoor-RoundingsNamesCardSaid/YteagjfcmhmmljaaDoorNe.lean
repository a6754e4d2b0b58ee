/-
  Texts of this proof, joined: RdH, RdT, RdV, AmW, AmX, LwR, LwH.
  Conditions: none.
-/
import Derived.Test.YteagjfcmhmmljaaDoorNd
import Derived.Test.YteagjfcmhmmljaaDoorNb
import Derived.WalkKit
import Derived.ProofKit
import Derived.Lib.UnsafeStr
import Derived.Lib.Builder
import Derived.Laws.Externs
import Derived.Test.YteagjfcmhmmljaaDoorProg
import Derived.OpenShut
import Derived.ShutString
import Derived.ChangeOld
import Derived.Below
import Derived.Deep.Strs
import Derived.Handed
import Derived.HandedShaped
import Derived.Shelf.Vars
import Derived.Test.YteagjfcmhmmljaaDoorRows
import Derived.Lib.LaidTab
import Derived.MakeChecks
set_option linter.unusedSimpArgs false
set_option linter.unnecessarySimpa false
set_option linter.unusedVariables false
/-
  The examples of the chapter hold.
  Conditions: none.
-/
namespace Go.Proofs.YteagjfcmhmmljaaDoor
open Go.AM
open Go.Proofs
open Go.Dec
open Go.Lib (decDigits)
set_option maxRecDepth 100000

def exR (i : Nat) : List AVal := (List.range 7).map fun j => .int .i64 (exW i j)
theorem exR_get (i j : Nat) (hj : j < 7) : (exR i).getD j .dead = .int .i64 (exW i j) := by
  simp [exR, List.getD, List.getElem?_range hj]
theorem exW_bound (i j : Nat) (hi : i < 5) (hj : j < 7) : -1000000 ≤ exW i j ∧ exW i j ≤ 1000000 := by
  have : ∀ i : Fin 5, ∀ j : Fin 7, -1000000 ≤ exW i j ∧ exW i j ≤ 1000000 := by decide
  exact this ⟨i, hi⟩ ⟨j, hj⟩
theorem ex_len (i : Nat) (hi : i < 5) : (exD i).dig.length ≤ 9223372036854775807 := by
  have := (Small_of_check (ex_check i hi)).1.l
  omega

theorem canon_len (neg : Bool) (n k : Nat) (hn : n < 10 ^ 62) : (canon neg n k).dig.length ≤ 9223372036854775807 := by
  have := (canon_bound neg n k 62 (by omega) hn).1
  omega
theorem exM_len : exM.dig.length ≤ 9223372036854775807 := canon_len _ _ _ (by decide +kernel)
set_option maxHeartbeats 4000000 in
theorem c_lives (w₀ : World) (ht : Tab10 w₀) (h : AHeap) : ACall Tryd.prog w₀ 6 [] h (fun v h' => v = .bool true ∧ h' = h) := by
  refine acall_intro (n := 140) (rs := [.tmp 0]) Tryd.func6 rfl rfl rfl rfl (Nat.le_of_ble_eq_true rfl) ?_
  simp only [initSlots]
  -- region 0  law.go:19
  refine awp_rseq [] (by rfl) fun K hK => ?_
  simp (decide := true) only [aOps_nil, vOps_nil, fOps_nil, kOps_nil, ev, absV, absS, putD, Slots.put, Slots.get, Slots.keep, if_true, if_false, List.contains_cons, List.contains_nil, true_and, and_true, ↓ap_assign, pop_assign, rd_ne', ne_eq, not_false_eq_true, rd_any, AVal.cells, setAt, List.set_cons_zero, List.set_cons_succ, cellsAt, List.getD_cons_zero, List.getD_cons_succ, Nat.zero_add, Nat.reduceAdd, lv_bool, lv_int, lv_str, lv_nilPtr, lv_ptr, lv_nilSlice, lv_slice, lv_nilFunc, lv_func, lv_nilIface, lv_iface, lv_nilMap, lv_agg, lv_tuple, allLive, Bool.and_true, decA]
  repeat (with_reducible refine And.intro ?_ ?_; · first | trivial | omega | (intro hg; simp only [Bool.and_eq_true, Bool.or_eq_true, Bool.not_eq_true', Bool.and_eq_false_iff, Bool.or_eq_false_iff, Bool.not_eq_false', decide_eq_true_eq, decide_eq_false_iff_not, eqNil] at hg; omega) )
  apply hK; clear hK K
  -- region 1  law.go:20
  refine awp_rseq [1] (by rfl) fun K hK => ?_
  refine aOps_callV (V := decA (exD 0)) (by rfl) (by rfl) ((c_of13 w₀ ht _ 25 1 (by omega) (by omega) (by omega) (by omega)).val rfl) ?_
  refine aOps_callV (V := decA (exD 1)) (by rfl) (by rfl) ((c_of13 w₀ ht _ (-25) 1 (by omega) (by omega) (by omega) (by omega)).val rfl) ?_
  refine aOps_callV (V := decA (exD 2)) (by rfl) (by rfl) ((c_of13 w₀ ht _ 351 2 (by omega) (by omega) (by omega) (by omega)).val rfl) ?_
  refine aOps_callV (V := decA (exD 3)) (by rfl) (by rfl) ((c_of13 w₀ ht _ 4 2 (by omega) (by omega) (by omega) (by omega)).val rfl) ?_
  refine aOps_callV (V := decA (exD 4)) (by rfl) (by rfl) ((c_of13 w₀ ht _ 1250 0 (by omega) (by omega) (by omega) (by omega)).val rfl) ?_
  refine aOps_buildSlice (cs := [.bool (exD 0).neg, .str (exD 0).dig, .int .i64 (exD 0).scale, .bool (exD 1).neg, .str (exD 1).dig, .int .i64 (exD 1).scale, .bool (exD 2).neg, .str (exD 2).dig, .int .i64 (exD 2).scale, .bool (exD 3).neg, .str (exD 3).dig, .int .i64 (exD 3).scale, .bool (exD 4).neg, .str (exD 4).dig, .int .i64 (exD 4).scale]) (by kernel_rfl) fun k1q5 hk1q5 => ?_
  try have hf_1q5 : h k1q5 = none := by first | assumption | (simp only [AHeap.set_none] at hk1q5; simp only [hk1q5])
  simp (decide := true) only [aOps_nil, vOps_nil, fOps_nil, kOps_nil, ev, absV, absS, putD, Slots.put, Slots.get, Slots.keep, if_true, if_false, List.contains_cons, List.contains_nil, true_and, and_true, ↓ap_assign, pop_assign, rd_ne', ne_eq, not_false_eq_true, rd_any, AVal.cells, setAt, List.set_cons_zero, List.set_cons_succ, cellsAt, List.getD_cons_zero, List.getD_cons_succ, Nat.zero_add, Nat.reduceAdd, lv_bool, lv_int, lv_str, lv_nilPtr, lv_ptr, lv_nilSlice, lv_slice, lv_nilFunc, lv_func, lv_nilIface, lv_iface, lv_nilMap, lv_agg, lv_tuple, allLive, Bool.and_true, decA]
  repeat (with_reducible refine And.intro ?_ ?_; · first | trivial | omega | (intro hg; simp only [Bool.and_eq_true, Bool.or_eq_true, Bool.not_eq_true', Bool.and_eq_false_iff, Bool.or_eq_false_iff, Bool.not_eq_false', decide_eq_true_eq, decide_eq_false_iff_not, eqNil] at hg; omega) )
  apply hK; clear hK K
  -- region 2  law.go:21
  refine awp_rseq [1, 2] (by rfl) fun K hK => ?_
  refine aOps_buildSlice (cs := [.int .i64 0, .int .i64 0, .int .i64 0, .int .i64 1, .int .i64 (-2)]) (by kernel_rfl) fun k2q0 hk2q0 => ?_
  have ne_2q0_1q5 : k2q0 ≠ k1q5 := by simp only [AHeap.set_none] at hk2q0; simp only [hk2q0, ne_eq, not_false_eq_true]
  try have hf_2q0 : h k2q0 = none := by first | assumption | (simp only [AHeap.set_none] at hk2q0; simp only [hk2q0])
  simp (decide := true) only [aOps_nil, vOps_nil, fOps_nil, kOps_nil, ev, absV, absS, putD, Slots.put, Slots.get, Slots.keep, if_true, if_false, List.contains_cons, List.contains_nil, true_and, and_true, ↓ap_assign, pop_assign, rd_ne', ne_eq, not_false_eq_true, ne_2q0_1q5, ne_2q0_1q5.symm, rd_any, AVal.cells, setAt, List.set_cons_zero, List.set_cons_succ, cellsAt, List.getD_cons_zero, List.getD_cons_succ, Nat.zero_add, Nat.reduceAdd, lv_bool, lv_int, lv_str, lv_nilPtr, lv_ptr, lv_nilSlice, lv_slice, lv_nilFunc, lv_func, lv_nilIface, lv_iface, lv_nilMap, lv_agg, lv_tuple, allLive, Bool.and_true, decA]
  repeat (with_reducible refine And.intro ?_ ?_; · first | trivial | omega | (intro hg; simp only [Bool.and_eq_true, Bool.or_eq_true, Bool.not_eq_true', Bool.and_eq_false_iff, Bool.or_eq_false_iff, Bool.not_eq_false', decide_eq_true_eq, decide_eq_false_iff_not, eqNil] at hg; omega) )
  apply hK; clear hK K
  -- region 3  law.go:22
  refine awp_rseq [1, 2, 3] (by rfl) fun K hK => ?_
  refine aOps_buildSlice (cs := [.int .i64 0, .int .i64 0, .int .i64 0, .int .i64 1, .int .i64 0]) (by kernel_rfl) fun k3q0 hk3q0 => ?_
  have ne_3q0_1q5 : k3q0 ≠ k1q5 := by simp only [AHeap.set_none] at hk3q0; simp only [hk3q0, ne_eq, not_false_eq_true]
  have ne_3q0_2q0 : k3q0 ≠ k2q0 := by simp only [AHeap.set_none] at hk3q0; simp only [hk3q0, ne_eq, not_false_eq_true]
  try have hf_3q0 : h k3q0 = none := by first | assumption | (simp only [AHeap.set_none] at hk3q0; simp only [hk3q0])
  simp (decide := true) only [aOps_nil, vOps_nil, fOps_nil, kOps_nil, ev, absV, absS, putD, Slots.put, Slots.get, Slots.keep, if_true, if_false, List.contains_cons, List.contains_nil, true_and, and_true, ↓ap_assign, pop_assign, rd_ne', ne_eq, not_false_eq_true, ne_2q0_1q5, ne_2q0_1q5.symm, ne_3q0_1q5, ne_3q0_1q5.symm, ne_3q0_2q0, ne_3q0_2q0.symm, rd_any, AVal.cells, setAt, List.set_cons_zero, List.set_cons_succ, cellsAt, List.getD_cons_zero, List.getD_cons_succ, Nat.zero_add, Nat.reduceAdd, lv_bool, lv_int, lv_str, lv_nilPtr, lv_ptr, lv_nilSlice, lv_slice, lv_nilFunc, lv_func, lv_nilIface, lv_iface, lv_nilMap, lv_agg, lv_tuple, allLive, Bool.and_true, decA]
  repeat (with_reducible refine And.intro ?_ ?_; · first | trivial | omega | (intro hg; simp only [Bool.and_eq_true, Bool.or_eq_true, Bool.not_eq_true', Bool.and_eq_false_iff, Bool.or_eq_false_iff, Bool.not_eq_false', decide_eq_true_eq, decide_eq_false_iff_not, eqNil] at hg; omega) )
  apply hK; clear hK K
  -- region 4  law.go:23
  refine awp_rseq [1, 2, 3, 4] (by rfl) fun K hK => ?_
  refine aOps_buildSlice (cs := exR 0) (by kernel_rfl) fun k4q0 hk4q0 => ?_
  have ne_4q0_1q5 : k4q0 ≠ k1q5 := by simp only [AHeap.set_none] at hk4q0; simp only [hk4q0, ne_eq, not_false_eq_true]
  have ne_4q0_2q0 : k4q0 ≠ k2q0 := by simp only [AHeap.set_none] at hk4q0; simp only [hk4q0, ne_eq, not_false_eq_true]
  have ne_4q0_3q0 : k4q0 ≠ k3q0 := by simp only [AHeap.set_none] at hk4q0; simp only [hk4q0, ne_eq, not_false_eq_true]
  try have hf_4q0 : h k4q0 = none := by first | assumption | (simp only [AHeap.set_none] at hk4q0; simp only [hk4q0])
  refine aOps_buildSlice (cs := exR 1) (by kernel_rfl) fun k4q1 hk4q1 => ?_
  have ne_4q1_1q5 : k4q1 ≠ k1q5 := by simp only [AHeap.set_none] at hk4q1; simp only [hk4q1, ne_eq, not_false_eq_true]
  have ne_4q1_2q0 : k4q1 ≠ k2q0 := by simp only [AHeap.set_none] at hk4q1; simp only [hk4q1, ne_eq, not_false_eq_true]
  have ne_4q1_3q0 : k4q1 ≠ k3q0 := by simp only [AHeap.set_none] at hk4q1; simp only [hk4q1, ne_eq, not_false_eq_true]
  have ne_4q1_4q0 : k4q1 ≠ k4q0 := by simp only [AHeap.set_none] at hk4q1; simp only [hk4q1, ne_eq, not_false_eq_true]
  try have hf_4q1 : h k4q1 = none := by first | assumption | (simp only [AHeap.set_none] at hk4q1; simp only [hk4q1])
  refine aOps_buildSlice (cs := exR 2) (by kernel_rfl) fun k4q2 hk4q2 => ?_
  have ne_4q2_1q5 : k4q2 ≠ k1q5 := by simp only [AHeap.set_none] at hk4q2; simp only [hk4q2, ne_eq, not_false_eq_true]
  have ne_4q2_2q0 : k4q2 ≠ k2q0 := by simp only [AHeap.set_none] at hk4q2; simp only [hk4q2, ne_eq, not_false_eq_true]
  have ne_4q2_3q0 : k4q2 ≠ k3q0 := by simp only [AHeap.set_none] at hk4q2; simp only [hk4q2, ne_eq, not_false_eq_true]
  have ne_4q2_4q0 : k4q2 ≠ k4q0 := by simp only [AHeap.set_none] at hk4q2; simp only [hk4q2, ne_eq, not_false_eq_true]
  have ne_4q2_4q1 : k4q2 ≠ k4q1 := by simp only [AHeap.set_none] at hk4q2; simp only [hk4q2, ne_eq, not_false_eq_true]
  try have hf_4q2 : h k4q2 = none := by first | assumption | (simp only [AHeap.set_none] at hk4q2; simp only [hk4q2])
  refine aOps_buildSlice (cs := exR 3) (by kernel_rfl) fun k4q3 hk4q3 => ?_
  have ne_4q3_1q5 : k4q3 ≠ k1q5 := by simp only [AHeap.set_none] at hk4q3; simp only [hk4q3, ne_eq, not_false_eq_true]
  have ne_4q3_2q0 : k4q3 ≠ k2q0 := by simp only [AHeap.set_none] at hk4q3; simp only [hk4q3, ne_eq, not_false_eq_true]
  have ne_4q3_3q0 : k4q3 ≠ k3q0 := by simp only [AHeap.set_none] at hk4q3; simp only [hk4q3, ne_eq, not_false_eq_true]
  have ne_4q3_4q0 : k4q3 ≠ k4q0 := by simp only [AHeap.set_none] at hk4q3; simp only [hk4q3, ne_eq, not_false_eq_true]
  have ne_4q3_4q1 : k4q3 ≠ k4q1 := by simp only [AHeap.set_none] at hk4q3; simp only [hk4q3, ne_eq, not_false_eq_true]
  have ne_4q3_4q2 : k4q3 ≠ k4q2 := by simp only [AHeap.set_none] at hk4q3; simp only [hk4q3, ne_eq, not_false_eq_true]
  try have hf_4q3 : h k4q3 = none := by first | assumption | (simp only [AHeap.set_none] at hk4q3; simp only [hk4q3])
  refine aOps_buildSlice (cs := exR 4) (by kernel_rfl) fun k4q4 hk4q4 => ?_
  have ne_4q4_1q5 : k4q4 ≠ k1q5 := by simp only [AHeap.set_none] at hk4q4; simp only [hk4q4, ne_eq, not_false_eq_true]
  have ne_4q4_2q0 : k4q4 ≠ k2q0 := by simp only [AHeap.set_none] at hk4q4; simp only [hk4q4, ne_eq, not_false_eq_true]
  have ne_4q4_3q0 : k4q4 ≠ k3q0 := by simp only [AHeap.set_none] at hk4q4; simp only [hk4q4, ne_eq, not_false_eq_true]
  have ne_4q4_4q0 : k4q4 ≠ k4q0 := by simp only [AHeap.set_none] at hk4q4; simp only [hk4q4, ne_eq, not_false_eq_true]
  have ne_4q4_4q1 : k4q4 ≠ k4q1 := by simp only [AHeap.set_none] at hk4q4; simp only [hk4q4, ne_eq, not_false_eq_true]
  have ne_4q4_4q2 : k4q4 ≠ k4q2 := by simp only [AHeap.set_none] at hk4q4; simp only [hk4q4, ne_eq, not_false_eq_true]
  have ne_4q4_4q3 : k4q4 ≠ k4q3 := by simp only [AHeap.set_none] at hk4q4; simp only [hk4q4, ne_eq, not_false_eq_true]
  try have hf_4q4 : h k4q4 = none := by first | assumption | (simp only [AHeap.set_none] at hk4q4; simp only [hk4q4])
  refine aOps_buildSlice (cs := [.slice (.own k4q0) 0 7 (.exact 7), .slice (.own k4q1) 0 7 (.exact 7), .slice (.own k4q2) 0 7 (.exact 7), .slice (.own k4q3) 0 7 (.exact 7), .slice (.own k4q4) 0 7 (.exact 7)]) (by kernel_rfl) fun k4q5 hk4q5 => ?_
  have ne_4q5_1q5 : k4q5 ≠ k1q5 := by simp only [AHeap.set_none] at hk4q5; simp only [hk4q5, ne_eq, not_false_eq_true]
  have ne_4q5_2q0 : k4q5 ≠ k2q0 := by simp only [AHeap.set_none] at hk4q5; simp only [hk4q5, ne_eq, not_false_eq_true]
  have ne_4q5_3q0 : k4q5 ≠ k3q0 := by simp only [AHeap.set_none] at hk4q5; simp only [hk4q5, ne_eq, not_false_eq_true]
  have ne_4q5_4q0 : k4q5 ≠ k4q0 := by simp only [AHeap.set_none] at hk4q5; simp only [hk4q5, ne_eq, not_false_eq_true]
  have ne_4q5_4q1 : k4q5 ≠ k4q1 := by simp only [AHeap.set_none] at hk4q5; simp only [hk4q5, ne_eq, not_false_eq_true]
  have ne_4q5_4q2 : k4q5 ≠ k4q2 := by simp only [AHeap.set_none] at hk4q5; simp only [hk4q5, ne_eq, not_false_eq_true]
  have ne_4q5_4q3 : k4q5 ≠ k4q3 := by simp only [AHeap.set_none] at hk4q5; simp only [hk4q5, ne_eq, not_false_eq_true]
  have ne_4q5_4q4 : k4q5 ≠ k4q4 := by simp only [AHeap.set_none] at hk4q5; simp only [hk4q5, ne_eq, not_false_eq_true]
  try have hf_4q5 : h k4q5 = none := by first | assumption | (simp only [AHeap.set_none] at hk4q5; simp only [hk4q5])
  simp (decide := true) only [aOps_nil, vOps_nil, fOps_nil, kOps_nil, ev, absV, absS, putD, Slots.put, Slots.get, Slots.keep, if_true, if_false, List.contains_cons, List.contains_nil, true_and, and_true, ↓ap_assign, pop_assign, rd_ne', ne_eq, not_false_eq_true, ne_2q0_1q5, ne_2q0_1q5.symm, ne_3q0_1q5, ne_3q0_1q5.symm, ne_3q0_2q0, ne_3q0_2q0.symm, ne_4q0_1q5, ne_4q0_1q5.symm, ne_4q0_2q0, ne_4q0_2q0.symm, ne_4q0_3q0, ne_4q0_3q0.symm, ne_4q1_1q5, ne_4q1_1q5.symm, ne_4q1_2q0, ne_4q1_2q0.symm, ne_4q1_3q0, ne_4q1_3q0.symm, ne_4q1_4q0, ne_4q1_4q0.symm, ne_4q2_1q5, ne_4q2_1q5.symm, ne_4q2_2q0, ne_4q2_2q0.symm, ne_4q2_3q0, ne_4q2_3q0.symm, ne_4q2_4q0, ne_4q2_4q0.symm, ne_4q2_4q1, ne_4q2_4q1.symm, ne_4q3_1q5, ne_4q3_1q5.symm, ne_4q3_2q0, ne_4q3_2q0.symm, ne_4q3_3q0, ne_4q3_3q0.symm, ne_4q3_4q0, ne_4q3_4q0.symm, ne_4q3_4q1, ne_4q3_4q1.symm, ne_4q3_4q2, ne_4q3_4q2.symm, ne_4q4_1q5, ne_4q4_1q5.symm, ne_4q4_2q0, ne_4q4_2q0.symm, ne_4q4_3q0, ne_4q4_3q0.symm, ne_4q4_4q0, ne_4q4_4q0.symm, ne_4q4_4q1, ne_4q4_4q1.symm, ne_4q4_4q2, ne_4q4_4q2.symm, ne_4q4_4q3, ne_4q4_4q3.symm, ne_4q5_1q5, ne_4q5_1q5.symm, ne_4q5_2q0, ne_4q5_2q0.symm, ne_4q5_3q0, ne_4q5_3q0.symm, ne_4q5_4q0, ne_4q5_4q0.symm, ne_4q5_4q1, ne_4q5_4q1.symm, ne_4q5_4q2, ne_4q5_4q2.symm, ne_4q5_4q3, ne_4q5_4q3.symm, ne_4q5_4q4, ne_4q5_4q4.symm, rd_any, AVal.cells, setAt, List.set_cons_zero, List.set_cons_succ, cellsAt, List.getD_cons_zero, List.getD_cons_succ, Nat.zero_add, Nat.reduceAdd, lv_bool, lv_int, lv_str, lv_nilPtr, lv_ptr, lv_nilSlice, lv_slice, lv_nilFunc, lv_func, lv_nilIface, lv_iface, lv_nilMap, lv_agg, lv_tuple, allLive, Bool.and_true, decA]
  repeat (with_reducible refine And.intro ?_ ?_; · first | trivial | omega | (intro hg; simp only [Bool.and_eq_true, Bool.or_eq_true, Bool.not_eq_true', Bool.and_eq_false_iff, Bool.or_eq_false_iff, Bool.not_eq_false', decide_eq_true_eq, decide_eq_false_iff_not, eqNil] at hg; omega) )
  apply hK; clear hK K
  refine awp_seq ?_
  -- region 5  law.go:24
  refine awp_rseq [1, 2, 3, 4, 5] (by rfl) fun K hK => ?_
  simp (decide := true) only [aOps_nil, vOps_nil, fOps_nil, kOps_nil, ev, absV, absS, putD, Slots.put, Slots.get, Slots.keep, if_true, if_false, List.contains_cons, List.contains_nil, true_and, and_true, ↓ap_assign, pop_assign, rd_ne', ne_eq, not_false_eq_true, ne_2q0_1q5, ne_2q0_1q5.symm, ne_3q0_1q5, ne_3q0_1q5.symm, ne_3q0_2q0, ne_3q0_2q0.symm, ne_4q0_1q5, ne_4q0_1q5.symm, ne_4q0_2q0, ne_4q0_2q0.symm, ne_4q0_3q0, ne_4q0_3q0.symm, ne_4q1_1q5, ne_4q1_1q5.symm, ne_4q1_2q0, ne_4q1_2q0.symm, ne_4q1_3q0, ne_4q1_3q0.symm, ne_4q1_4q0, ne_4q1_4q0.symm, ne_4q2_1q5, ne_4q2_1q5.symm, ne_4q2_2q0, ne_4q2_2q0.symm, ne_4q2_3q0, ne_4q2_3q0.symm, ne_4q2_4q0, ne_4q2_4q0.symm, ne_4q2_4q1, ne_4q2_4q1.symm, ne_4q3_1q5, ne_4q3_1q5.symm, ne_4q3_2q0, ne_4q3_2q0.symm, ne_4q3_3q0, ne_4q3_3q0.symm, ne_4q3_4q0, ne_4q3_4q0.symm, ne_4q3_4q1, ne_4q3_4q1.symm, ne_4q3_4q2, ne_4q3_4q2.symm, ne_4q4_1q5, ne_4q4_1q5.symm, ne_4q4_2q0, ne_4q4_2q0.symm, ne_4q4_3q0, ne_4q4_3q0.symm, ne_4q4_4q0, ne_4q4_4q0.symm, ne_4q4_4q1, ne_4q4_4q1.symm, ne_4q4_4q2, ne_4q4_4q2.symm, ne_4q4_4q3, ne_4q4_4q3.symm, ne_4q5_1q5, ne_4q5_1q5.symm, ne_4q5_2q0, ne_4q5_2q0.symm, ne_4q5_3q0, ne_4q5_3q0.symm, ne_4q5_4q0, ne_4q5_4q0.symm, ne_4q5_4q1, ne_4q5_4q1.symm, ne_4q5_4q2, ne_4q5_4q2.symm, ne_4q5_4q3, ne_4q5_4q3.symm, ne_4q5_4q4, ne_4q5_4q4.symm, rd_any, AVal.cells, setAt, List.set_cons_zero, List.set_cons_succ, cellsAt, List.getD_cons_zero, List.getD_cons_succ, Nat.zero_add, Nat.reduceAdd, lv_bool, lv_int, lv_str, lv_nilPtr, lv_ptr, lv_nilSlice, lv_slice, lv_nilFunc, lv_func, lv_nilIface, lv_iface, lv_nilMap, lv_agg, lv_tuple, allLive, Bool.and_true, decA]
  repeat (with_reducible refine And.intro ?_ ?_; · first | trivial | omega | (intro hg; simp only [Bool.and_eq_true, Bool.or_eq_true, Bool.not_eq_true', Bool.and_eq_false_iff, Bool.or_eq_false_iff, Bool.not_eq_false', decide_eq_true_eq, decide_eq_false_iff_not, eqNil] at hg; omega) )
  apply hK; clear hK K
  refine awp_block ?_
  refine awp_loopG [1, 2, 3, 4, 5] (fun i : Nat => [(1, .slice (.own k1q5) 0 5 (.exact 5)), (2, .slice (.own k2q0) 0 5 (.exact 5)), (3, .slice (.own k3q0) 0 5 (.exact 5)), (4, .slice (.own k4q5) 0 5 (.exact 5)), (5, .int .i64 i)]) (fun i : Nat => ((((((((h.set k1q5 ⟨[.bool (exD 0).neg, .str (exD 0).dig, .int .i64 (exD 0).scale, .bool (exD 1).neg, .str (exD 1).dig, .int .i64 (exD 1).scale, .bool (exD 2).neg, .str (exD 2).dig, .int .i64 (exD 2).scale, .bool (exD 3).neg, .str (exD 3).dig, .int .i64 (exD 3).scale, .bool (exD 4).neg, .str (exD 4).dig, .int .i64 (exD 4).scale], 0⟩).set k2q0 ⟨[.int .i64 0, .int .i64 0, .int .i64 0, .int .i64 1, .int .i64 (-2)], 0⟩).set k3q0 ⟨[.int .i64 0, .int .i64 0, .int .i64 0, .int .i64 1, .int .i64 0], 0⟩).set k4q0 ⟨exR 0, 0⟩).set k4q1 ⟨exR 1, 0⟩).set k4q2 ⟨exR 2, 0⟩).set k4q3 ⟨exR 3, 0⟩).set k4q4 ⟨exR 4, 0⟩).set k4q5 ⟨[.slice (.own k4q0) 0 7 (.exact 7), .slice (.own k4q1) 0 7 (.exact 7), .slice (.own k4q2) 0 7 (.exact 7), .slice (.own k4q3) 0 7 (.exact 7), .slice (.own k4q4) 0 7 (.exact 7)], 0⟩) (fun i : Nat => i ≤ 5) (fun i : Nat => 5 - i) 0 (by rfl) (Sub.refl _) (by omega) ?_
  intro i hi
  refine awp_seq ?_
  -- region 6  law.go:24
  refine awp_rseq [1, 2, 3, 4, 5, 38] (by rfl) fun K hK => ?_
  simp (decide := true) only [aOps_nil, vOps_nil, fOps_nil, kOps_nil, ev, absV, absS, putD, Slots.put, Slots.get, Slots.keep, if_true, if_false, List.contains_cons, List.contains_nil, true_and, and_true, ↓ap_move, pop_move, ↓ap_binOp, pop_binOp, isNilC_int, cond_false, pBinX_int, pI_lss, rd_ne', ne_eq, not_false_eq_true, ne_2q0_1q5, ne_2q0_1q5.symm, ne_3q0_1q5, ne_3q0_1q5.symm, ne_3q0_2q0, ne_3q0_2q0.symm, ne_4q0_1q5, ne_4q0_1q5.symm, ne_4q0_2q0, ne_4q0_2q0.symm, ne_4q0_3q0, ne_4q0_3q0.symm, ne_4q1_1q5, ne_4q1_1q5.symm, ne_4q1_2q0, ne_4q1_2q0.symm, ne_4q1_3q0, ne_4q1_3q0.symm, ne_4q1_4q0, ne_4q1_4q0.symm, ne_4q2_1q5, ne_4q2_1q5.symm, ne_4q2_2q0, ne_4q2_2q0.symm, ne_4q2_3q0, ne_4q2_3q0.symm, ne_4q2_4q0, ne_4q2_4q0.symm, ne_4q2_4q1, ne_4q2_4q1.symm, ne_4q3_1q5, ne_4q3_1q5.symm, ne_4q3_2q0, ne_4q3_2q0.symm, ne_4q3_3q0, ne_4q3_3q0.symm, ne_4q3_4q0, ne_4q3_4q0.symm, ne_4q3_4q1, ne_4q3_4q1.symm, ne_4q3_4q2, ne_4q3_4q2.symm, ne_4q4_1q5, ne_4q4_1q5.symm, ne_4q4_2q0, ne_4q4_2q0.symm, ne_4q4_3q0, ne_4q4_3q0.symm, ne_4q4_4q0, ne_4q4_4q0.symm, ne_4q4_4q1, ne_4q4_4q1.symm, ne_4q4_4q2, ne_4q4_4q2.symm, ne_4q4_4q3, ne_4q4_4q3.symm, ne_4q5_1q5, ne_4q5_1q5.symm, ne_4q5_2q0, ne_4q5_2q0.symm, ne_4q5_3q0, ne_4q5_3q0.symm, ne_4q5_4q0, ne_4q5_4q0.symm, ne_4q5_4q1, ne_4q5_4q1.symm, ne_4q5_4q2, ne_4q5_4q2.symm, ne_4q5_4q3, ne_4q5_4q3.symm, ne_4q5_4q4, ne_4q5_4q4.symm, rd_any, AVal.cells, setAt, List.set_cons_zero, List.set_cons_succ, cellsAt, List.getD_cons_zero, List.getD_cons_succ, Nat.zero_add, Nat.reduceAdd, lv_bool, lv_int, lv_str, lv_nilPtr, lv_ptr, lv_nilSlice, lv_slice, lv_nilFunc, lv_func, lv_nilIface, lv_iface, lv_nilMap, lv_agg, lv_tuple, allLive, Bool.and_true, decA]
  repeat (with_reducible refine And.intro ?_ ?_; · first | trivial | omega | (intro hg; simp only [Bool.and_eq_true, Bool.or_eq_true, Bool.not_eq_true', Bool.and_eq_false_iff, Bool.or_eq_false_iff, Bool.not_eq_false', decide_eq_true_eq, decide_eq_false_iff_not, eqNil] at hg; omega) )
  apply hK; clear hK K
  refine awp_cond (b := _) rfl (fun hb1 => ?_) (fun hb1 => ?_)
  · try simp only [decide_eq_true_eq, decide_eq_false_iff_not, Bool.not_eq_true', Bool.not_eq_false', Bool.and_eq_true, Bool.and_eq_false_iff, Bool.or_eq_true, Bool.or_eq_false_iff, Bool.true_eq, Bool.false_eq, reduceCtorEq] at hb1
    have hi5 : i < 5 := by omega
    obtain ⟨kW, hkW⟩ : ∃ f : Nat → Nat, f = fun i => [k4q0, k4q1, k4q2, k4q3, k4q4].getD i 0 := ⟨_, rfl⟩
    have hd0 : ([.bool (exD 0).neg, .str (exD 0).dig, .int .i64 (exD 0).scale, .bool (exD 1).neg, .str (exD 1).dig, .int .i64 (exD 1).scale, .bool (exD 2).neg, .str (exD 2).dig, .int .i64 (exD 2).scale, .bool (exD 3).neg, .str (exD 3).dig, .int .i64 (exD 3).scale, .bool (exD 4).neg, .str (exD 4).dig, .int .i64 (exD 4).scale] : List AVal).getD (i * 3) .dead = .bool (exD i).neg := by
      match i, hi5 with
      | 0, _ => rfl
      | 1, _ => rfl
      | 2, _ => rfl
      | 3, _ => rfl
      | 4, _ => rfl
    have hd1 : ([.bool (exD 0).neg, .str (exD 0).dig, .int .i64 (exD 0).scale, .bool (exD 1).neg, .str (exD 1).dig, .int .i64 (exD 1).scale, .bool (exD 2).neg, .str (exD 2).dig, .int .i64 (exD 2).scale, .bool (exD 3).neg, .str (exD 3).dig, .int .i64 (exD 3).scale, .bool (exD 4).neg, .str (exD 4).dig, .int .i64 (exD 4).scale] : List AVal).getD (i * 3 + 1) .dead = .str (exD i).dig := by
      match i, hi5 with
      | 0, _ => rfl
      | 1, _ => rfl
      | 2, _ => rfl
      | 3, _ => rfl
      | 4, _ => rfl
    have hd2 : ([.bool (exD 0).neg, .str (exD 0).dig, .int .i64 (exD 0).scale, .bool (exD 1).neg, .str (exD 1).dig, .int .i64 (exD 1).scale, .bool (exD 2).neg, .str (exD 2).dig, .int .i64 (exD 2).scale, .bool (exD 3).neg, .str (exD 3).dig, .int .i64 (exD 3).scale, .bool (exD 4).neg, .str (exD 4).dig, .int .i64 (exD 4).scale] : List AVal).getD (i * 3 + 1 + 1) .dead = .int .i64 (exD i).scale := by
      match i, hi5 with
      | 0, _ => rfl
      | 1, _ => rfl
      | 2, _ => rfl
      | 3, _ => rfl
      | 4, _ => rfl
    have hsc : ([.int .i64 0, .int .i64 0, .int .i64 0, .int .i64 1, .int .i64 (-2)] : List AVal).getD i .dead = .int .i64 (exS i) := by
      match i, hi5 with
      | 0, _ => rfl
      | 1, _ => rfl
      | 2, _ => rfl
      | 3, _ => rfl
      | 4, _ => rfl
    have huc : ([.int .i64 0, .int .i64 0, .int .i64 0, .int .i64 1, .int .i64 0] : List AVal).getD i .dead = .int .i64 (exU i) := by
      match i, hi5 with
      | 0, _ => rfl
      | 1, _ => rfl
      | 2, _ => rfl
      | 3, _ => rfl
      | 4, _ => rfl
    have hwc : ([.slice (.own k4q0) 0 7 (.exact 7), .slice (.own k4q1) 0 7 (.exact 7), .slice (.own k4q2) 0 7 (.exact 7), .slice (.own k4q3) 0 7 (.exact 7), .slice (.own k4q4) 0 7 (.exact 7)] : List AVal).getD i .dead = .slice (.own (kW i)) 0 7 (.exact 7) := by
      rw [hkW]
      match i, hi5 with
      | 0, _ => rfl
      | 1, _ => rfl
      | 2, _ => rfl
      | 3, _ => rfl
      | 4, _ => rfl
    have hSU : -62 ≤ exS i ∧ exS i ≤ 62 ∧ 0 ≤ exU i ∧ exU i ≤ 1 := by
      match i, hi5 with
      | 0, _ => decide
      | 1, _ => decide
      | 2, _ => decide
      | 3, _ => decide
      | 4, _ => decide
    refine awp_skip ?_
    change Awp _ _ _ _ _ _ _
    refine awp_seq ?_
    refine awp_block ?_
    -- region 8  law.go:25
    refine awp_rseq [1, 2, 3, 4, 5, 6] (by rfl) fun K hK => ?_
    simp (decide := true) only [aOps_nil, vOps_nil, fOps_nil, kOps_nil, ev, absV, absS, putD, Slots.put, Slots.get, Slots.keep, if_true, if_false, List.contains_cons, List.contains_nil, true_and, and_true, ↓ap_assign, pop_assign, rd_ne', ne_eq, not_false_eq_true, ne_2q0_1q5, ne_2q0_1q5.symm, ne_3q0_1q5, ne_3q0_1q5.symm, ne_3q0_2q0, ne_3q0_2q0.symm, ne_4q0_1q5, ne_4q0_1q5.symm, ne_4q0_2q0, ne_4q0_2q0.symm, ne_4q0_3q0, ne_4q0_3q0.symm, ne_4q1_1q5, ne_4q1_1q5.symm, ne_4q1_2q0, ne_4q1_2q0.symm, ne_4q1_3q0, ne_4q1_3q0.symm, ne_4q1_4q0, ne_4q1_4q0.symm, ne_4q2_1q5, ne_4q2_1q5.symm, ne_4q2_2q0, ne_4q2_2q0.symm, ne_4q2_3q0, ne_4q2_3q0.symm, ne_4q2_4q0, ne_4q2_4q0.symm, ne_4q2_4q1, ne_4q2_4q1.symm, ne_4q3_1q5, ne_4q3_1q5.symm, ne_4q3_2q0, ne_4q3_2q0.symm, ne_4q3_3q0, ne_4q3_3q0.symm, ne_4q3_4q0, ne_4q3_4q0.symm, ne_4q3_4q1, ne_4q3_4q1.symm, ne_4q3_4q2, ne_4q3_4q2.symm, ne_4q4_1q5, ne_4q4_1q5.symm, ne_4q4_2q0, ne_4q4_2q0.symm, ne_4q4_3q0, ne_4q4_3q0.symm, ne_4q4_4q0, ne_4q4_4q0.symm, ne_4q4_4q1, ne_4q4_4q1.symm, ne_4q4_4q2, ne_4q4_4q2.symm, ne_4q4_4q3, ne_4q4_4q3.symm, ne_4q5_1q5, ne_4q5_1q5.symm, ne_4q5_2q0, ne_4q5_2q0.symm, ne_4q5_3q0, ne_4q5_3q0.symm, ne_4q5_4q0, ne_4q5_4q0.symm, ne_4q5_4q1, ne_4q5_4q1.symm, ne_4q5_4q2, ne_4q5_4q2.symm, ne_4q5_4q3, ne_4q5_4q3.symm, ne_4q5_4q4, ne_4q5_4q4.symm, rd_any, AVal.cells, setAt, List.set_cons_zero, List.set_cons_succ, cellsAt, List.getD_cons_zero, List.getD_cons_succ, Nat.zero_add, Nat.reduceAdd, lv_bool, lv_int, lv_str, lv_nilPtr, lv_ptr, lv_nilSlice, lv_slice, lv_nilFunc, lv_func, lv_nilIface, lv_iface, lv_nilMap, lv_agg, lv_tuple, allLive, Bool.and_true, decA]
    repeat (with_reducible refine And.intro ?_ ?_; · first | trivial | omega | (intro hg; simp only [Bool.and_eq_true, Bool.or_eq_true, Bool.not_eq_true', Bool.and_eq_false_iff, Bool.or_eq_false_iff, Bool.not_eq_false', decide_eq_true_eq, decide_eq_false_iff_not, eqNil] at hg; omega) )
    apply hK; clear hK K
    refine awp_block ?_
    refine awp_loopG [1, 2, 3, 4, 5, 6] (fun j : Nat => [(1, .slice (.own k1q5) 0 5 (.exact 5)), (2, .slice (.own k2q0) 0 5 (.exact 5)), (3, .slice (.own k3q0) 0 5 (.exact 5)), (4, .slice (.own k4q5) 0 5 (.exact 5)), (5, .int .i64 i), (6, .int .i64 j)]) (fun j : Nat => ((((((((h.set k1q5 ⟨[.bool (exD 0).neg, .str (exD 0).dig, .int .i64 (exD 0).scale, .bool (exD 1).neg, .str (exD 1).dig, .int .i64 (exD 1).scale, .bool (exD 2).neg, .str (exD 2).dig, .int .i64 (exD 2).scale, .bool (exD 3).neg, .str (exD 3).dig, .int .i64 (exD 3).scale, .bool (exD 4).neg, .str (exD 4).dig, .int .i64 (exD 4).scale], 0⟩).set k2q0 ⟨[.int .i64 0, .int .i64 0, .int .i64 0, .int .i64 1, .int .i64 (-2)], 0⟩).set k3q0 ⟨[.int .i64 0, .int .i64 0, .int .i64 0, .int .i64 1, .int .i64 0], 0⟩).set k4q0 ⟨exR 0, 0⟩).set k4q1 ⟨exR 1, 0⟩).set k4q2 ⟨exR 2, 0⟩).set k4q3 ⟨exR 3, 0⟩).set k4q4 ⟨exR 4, 0⟩).set k4q5 ⟨[.slice (.own k4q0) 0 7 (.exact 7), .slice (.own k4q1) 0 7 (.exact 7), .slice (.own k4q2) 0 7 (.exact 7), .slice (.own k4q3) 0 7 (.exact 7), .slice (.own k4q4) 0 7 (.exact 7)], 0⟩) (fun j : Nat => j ≤ 7) (fun j : Nat => 7 - j) 0 (by rfl) (Sub.refl _) (by omega) ?_
    intro j hj
    refine awp_seq ?_
    -- region 9  law.go:25
    refine awp_rseq [1, 2, 3, 4, 5, 6, 42] (by rfl) fun K hK => ?_
    simp (decide := true) only [aOps_nil, vOps_nil, fOps_nil, kOps_nil, ev, absV, absS, putD, Slots.put, Slots.get, Slots.keep, if_true, if_false, List.contains_cons, List.contains_nil, true_and, and_true, ↓ap_move, pop_move, ↓ap_binOp, pop_binOp, isNilC_int, cond_false, pBinX_int, pI_lss, rd_ne', ne_eq, not_false_eq_true, ne_2q0_1q5, ne_2q0_1q5.symm, ne_3q0_1q5, ne_3q0_1q5.symm, ne_3q0_2q0, ne_3q0_2q0.symm, ne_4q0_1q5, ne_4q0_1q5.symm, ne_4q0_2q0, ne_4q0_2q0.symm, ne_4q0_3q0, ne_4q0_3q0.symm, ne_4q1_1q5, ne_4q1_1q5.symm, ne_4q1_2q0, ne_4q1_2q0.symm, ne_4q1_3q0, ne_4q1_3q0.symm, ne_4q1_4q0, ne_4q1_4q0.symm, ne_4q2_1q5, ne_4q2_1q5.symm, ne_4q2_2q0, ne_4q2_2q0.symm, ne_4q2_3q0, ne_4q2_3q0.symm, ne_4q2_4q0, ne_4q2_4q0.symm, ne_4q2_4q1, ne_4q2_4q1.symm, ne_4q3_1q5, ne_4q3_1q5.symm, ne_4q3_2q0, ne_4q3_2q0.symm, ne_4q3_3q0, ne_4q3_3q0.symm, ne_4q3_4q0, ne_4q3_4q0.symm, ne_4q3_4q1, ne_4q3_4q1.symm, ne_4q3_4q2, ne_4q3_4q2.symm, ne_4q4_1q5, ne_4q4_1q5.symm, ne_4q4_2q0, ne_4q4_2q0.symm, ne_4q4_3q0, ne_4q4_3q0.symm, ne_4q4_4q0, ne_4q4_4q0.symm, ne_4q4_4q1, ne_4q4_4q1.symm, ne_4q4_4q2, ne_4q4_4q2.symm, ne_4q4_4q3, ne_4q4_4q3.symm, ne_4q5_1q5, ne_4q5_1q5.symm, ne_4q5_2q0, ne_4q5_2q0.symm, ne_4q5_3q0, ne_4q5_3q0.symm, ne_4q5_4q0, ne_4q5_4q0.symm, ne_4q5_4q1, ne_4q5_4q1.symm, ne_4q5_4q2, ne_4q5_4q2.symm, ne_4q5_4q3, ne_4q5_4q3.symm, ne_4q5_4q4, ne_4q5_4q4.symm, rd_any, AVal.cells, setAt, List.set_cons_zero, List.set_cons_succ, cellsAt, List.getD_cons_zero, List.getD_cons_succ, Nat.zero_add, Nat.reduceAdd, lv_bool, lv_int, lv_str, lv_nilPtr, lv_ptr, lv_nilSlice, lv_slice, lv_nilFunc, lv_func, lv_nilIface, lv_iface, lv_nilMap, lv_agg, lv_tuple, allLive, Bool.and_true, decA]
    repeat (with_reducible refine And.intro ?_ ?_; · first | trivial | omega | (intro hg; simp only [Bool.and_eq_true, Bool.or_eq_true, Bool.not_eq_true', Bool.and_eq_false_iff, Bool.or_eq_false_iff, Bool.not_eq_false', decide_eq_true_eq, decide_eq_false_iff_not, eqNil] at hg; omega) )
    apply hK; clear hK K
    refine awp_cond (b := _) rfl (fun hb2 => ?_) (fun hb2 => ?_)
    · try simp only [decide_eq_true_eq, decide_eq_false_iff_not, Bool.not_eq_true', Bool.not_eq_false', Bool.and_eq_true, Bool.and_eq_false_iff, Bool.or_eq_true, Bool.or_eq_false_iff, Bool.true_eq, Bool.false_eq, reduceCtorEq] at hb2
      have hj7 : j < 7 := by omega
      have hrW : rd w₀ (((((((((h.set k1q5 ⟨[.bool (exD 0).neg, .str (exD 0).dig, .int .i64 (exD 0).scale, .bool (exD 1).neg, .str (exD 1).dig, .int .i64 (exD 1).scale, .bool (exD 2).neg, .str (exD 2).dig, .int .i64 (exD 2).scale, .bool (exD 3).neg, .str (exD 3).dig, .int .i64 (exD 3).scale, .bool (exD 4).neg, .str (exD 4).dig, .int .i64 (exD 4).scale], 0⟩).set k2q0 ⟨[.int .i64 0, .int .i64 0, .int .i64 0, .int .i64 1, .int .i64 (-2)], 0⟩).set k3q0 ⟨[.int .i64 0, .int .i64 0, .int .i64 0, .int .i64 1, .int .i64 0], 0⟩).set k4q0 ⟨exR 0, 0⟩).set k4q1 ⟨exR 1, 0⟩).set k4q2 ⟨exR 2, 0⟩).set k4q3 ⟨exR 3, 0⟩).set k4q4 ⟨exR 4, 0⟩).set k4q5 ⟨[.slice (.own k4q0) 0 7 (.exact 7), .slice (.own k4q1) 0 7 (.exact 7), .slice (.own k4q2) 0 7 (.exact 7), .slice (.own k4q3) 0 7 (.exact 7), .slice (.own k4q4) 0 7 (.exact 7)], 0⟩) (.own (kW i)) j = .int .i64 (exW i j) := by
        rw [hkW]
        match i, hi5 with
        | 0, _ => simp (decide := true) only [List.getD_cons_zero, List.getD_cons_succ, rd_ne', rd_any, ne_eq, not_false_eq_true, ne_4q1_4q0.symm, ne_4q2_4q0.symm, ne_4q3_4q0.symm, ne_4q4_4q0.symm, ne_4q5_4q0.symm, exR_get _ _ hj7]
        | 1, _ => simp (decide := true) only [List.getD_cons_zero, List.getD_cons_succ, rd_ne', rd_any, ne_eq, not_false_eq_true, ne_4q2_4q1.symm, ne_4q3_4q1.symm, ne_4q4_4q1.symm, ne_4q5_4q1.symm, exR_get _ _ hj7]
        | 2, _ => simp (decide := true) only [List.getD_cons_zero, List.getD_cons_succ, rd_ne', rd_any, ne_eq, not_false_eq_true, ne_4q3_4q2.symm, ne_4q4_4q2.symm, ne_4q5_4q2.symm, exR_get _ _ hj7]
        | 3, _ => simp (decide := true) only [List.getD_cons_zero, List.getD_cons_succ, rd_ne', rd_any, ne_eq, not_false_eq_true, ne_4q4_4q3.symm, ne_4q5_4q3.symm, exR_get _ _ hj7]
        | 4, _ => simp (decide := true) only [List.getD_cons_zero, List.getD_cons_succ, rd_ne', rd_any, ne_eq, not_false_eq_true, ne_4q5_4q4.symm, exR_get _ _ hj7]
      obtain ⟨wb1, wb2⟩ := exW_bound i j hi5 hj7
      refine awp_skip ?_
      change Awp _ _ _ _ _ _ _
      refine awp_seq ?_
      refine awp_block ?_
      -- region 11  law.go:26
      refine awp_dseq_F 15 [13] [1, 2, 3, 4, 5, 6, 7, 8] mixed (by kernel_rfl) (by rfl) fun K hK => ?_
      simp only [List.take_succ_cons, List.take_zero, List.drop_succ_cons, List.drop_zero, List.take_nil, List.drop_nil]
      simp (decide := true) only [aOps_nil, vOps_nil, fOps_nil, kOps_nil, ev, absV, absS, putD, Slots.put, Slots.get, Slots.keep, if_true, if_false, List.contains_cons, List.contains_nil, true_and, and_true, ↓fp_move, pop_move, ↓fp_indexAddr, pop_load, pIndexAddr_slice Tryd.underlying34 sz32, pop_indexAddr, ↓fp_load, pLoad_agg ag32 sz32, pIndexAddr_slice Tryd.underlying35 sz3, pLoad_one ag3, ↓fp_convert _ _ _ (es_int Tryd.underlying3 Tryd.underlying23), pop_convert, pConv_int Tryd.underlying3 Tryd.underlying23, rd_ne', ne_eq, not_false_eq_true, ne_2q0_1q5, ne_2q0_1q5.symm, ne_3q0_1q5, ne_3q0_1q5.symm, ne_3q0_2q0, ne_3q0_2q0.symm, ne_4q0_1q5, ne_4q0_1q5.symm, ne_4q0_2q0, ne_4q0_2q0.symm, ne_4q0_3q0, ne_4q0_3q0.symm, ne_4q1_1q5, ne_4q1_1q5.symm, ne_4q1_2q0, ne_4q1_2q0.symm, ne_4q1_3q0, ne_4q1_3q0.symm, ne_4q1_4q0, ne_4q1_4q0.symm, ne_4q2_1q5, ne_4q2_1q5.symm, ne_4q2_2q0, ne_4q2_2q0.symm, ne_4q2_3q0, ne_4q2_3q0.symm, ne_4q2_4q0, ne_4q2_4q0.symm, ne_4q2_4q1, ne_4q2_4q1.symm, ne_4q3_1q5, ne_4q3_1q5.symm, ne_4q3_2q0, ne_4q3_2q0.symm, ne_4q3_3q0, ne_4q3_3q0.symm, ne_4q3_4q0, ne_4q3_4q0.symm, ne_4q3_4q1, ne_4q3_4q1.symm, ne_4q3_4q2, ne_4q3_4q2.symm, ne_4q4_1q5, ne_4q4_1q5.symm, ne_4q4_2q0, ne_4q4_2q0.symm, ne_4q4_3q0, ne_4q4_3q0.symm, ne_4q4_4q0, ne_4q4_4q0.symm, ne_4q4_4q1, ne_4q4_4q1.symm, ne_4q4_4q2, ne_4q4_4q2.symm, ne_4q4_4q3, ne_4q4_4q3.symm, ne_4q5_1q5, ne_4q5_1q5.symm, ne_4q5_2q0, ne_4q5_2q0.symm, ne_4q5_3q0, ne_4q5_3q0.symm, ne_4q5_4q0, ne_4q5_4q0.symm, ne_4q5_4q1, ne_4q5_4q1.symm, ne_4q5_4q2, ne_4q5_4q2.symm, ne_4q5_4q3, ne_4q5_4q3.symm, ne_4q5_4q4, ne_4q5_4q4.symm, rd_any, AVal.cells, setAt, List.set_cons_zero, List.set_cons_succ, cellsAt, List.getD_cons_zero, List.getD_cons_succ, Nat.zero_add, Nat.reduceAdd, lv_bool, lv_int, lv_str, lv_nilPtr, lv_ptr, lv_nilSlice, lv_slice, lv_nilFunc, lv_func, lv_nilIface, lv_iface, lv_nilMap, lv_agg, lv_tuple, allLive, Bool.and_true, decA, Int.toNat_natCast, Nat.mul_one, hd0, hd1, hd2, hsc]
      try simp (disch := omega) only [wrap_i64, wrap_u8]
      repeat (with_reducible refine And.intro ?_ ?_; · first | trivial | omega | (intro hg; simp only [Bool.and_eq_true, Bool.or_eq_true, Bool.not_eq_true', Bool.and_eq_false_iff, Bool.or_eq_false_iff, Bool.not_eq_false', decide_eq_true_eq, decide_eq_false_iff_not, eqNil] at hg; omega) )
      refine fOps_callV (V := .tuple [decA (canon (decide (exW i j < 0)) (exW i j).natAbs (exU i).toNat), .int .i64 0]) (by rfl) (by rfl) (by first | trivial | (simp (decide := true) only [AVal.okIn, okInL, and_true, true_and, decA, AHeap.set_same, Option.isSome_some]; done) | (simp [AVal.okIn, okInL, AHeap.set]; done)) (fun g hg => (c_Round w₀ _ (exD i) (exS i) j (ex_len i hi5) (by omega) (by omega) (by omega)).val (by rw [ex_round i hi5 j hj7])) ?_
      simp (decide := true) only [aOps_nil, vOps_nil, fOps_nil, kOps_nil, ev, absV, absS, putD, Slots.put, Slots.get, Slots.keep, if_true, if_false, List.contains_cons, List.contains_nil, true_and, and_true, ↓fp_move, pop_move, ↓fp_extract, pop_extract, pExt_tuple, List.length_cons, List.length_nil, List.getD_cons_zero, List.getD_cons_succ, rd_ne', ne_eq, not_false_eq_true, ne_2q0_1q5, ne_2q0_1q5.symm, ne_3q0_1q5, ne_3q0_1q5.symm, ne_3q0_2q0, ne_3q0_2q0.symm, ne_4q0_1q5, ne_4q0_1q5.symm, ne_4q0_2q0, ne_4q0_2q0.symm, ne_4q0_3q0, ne_4q0_3q0.symm, ne_4q1_1q5, ne_4q1_1q5.symm, ne_4q1_2q0, ne_4q1_2q0.symm, ne_4q1_3q0, ne_4q1_3q0.symm, ne_4q1_4q0, ne_4q1_4q0.symm, ne_4q2_1q5, ne_4q2_1q5.symm, ne_4q2_2q0, ne_4q2_2q0.symm, ne_4q2_3q0, ne_4q2_3q0.symm, ne_4q2_4q0, ne_4q2_4q0.symm, ne_4q2_4q1, ne_4q2_4q1.symm, ne_4q3_1q5, ne_4q3_1q5.symm, ne_4q3_2q0, ne_4q3_2q0.symm, ne_4q3_3q0, ne_4q3_3q0.symm, ne_4q3_4q0, ne_4q3_4q0.symm, ne_4q3_4q1, ne_4q3_4q1.symm, ne_4q3_4q2, ne_4q3_4q2.symm, ne_4q4_1q5, ne_4q4_1q5.symm, ne_4q4_2q0, ne_4q4_2q0.symm, ne_4q4_3q0, ne_4q4_3q0.symm, ne_4q4_4q0, ne_4q4_4q0.symm, ne_4q4_4q1, ne_4q4_4q1.symm, ne_4q4_4q2, ne_4q4_4q2.symm, ne_4q4_4q3, ne_4q4_4q3.symm, ne_4q5_1q5, ne_4q5_1q5.symm, ne_4q5_2q0, ne_4q5_2q0.symm, ne_4q5_3q0, ne_4q5_3q0.symm, ne_4q5_4q0, ne_4q5_4q0.symm, ne_4q5_4q1, ne_4q5_4q1.symm, ne_4q5_4q2, ne_4q5_4q2.symm, ne_4q5_4q3, ne_4q5_4q3.symm, ne_4q5_4q4, ne_4q5_4q4.symm, rd_any, AVal.cells, setAt, List.set_cons_zero, List.set_cons_succ, cellsAt, List.getD_cons_zero, List.getD_cons_succ, Nat.zero_add, Nat.reduceAdd, lv_bool, lv_int, lv_str, lv_nilPtr, lv_ptr, lv_nilSlice, lv_slice, lv_nilFunc, lv_func, lv_nilIface, lv_iface, lv_nilMap, lv_agg, lv_tuple, allLive, Bool.and_true, decA, Int.toNat_natCast, Nat.mul_one, hd0, hd1, hd2, hsc]
      repeat (with_reducible refine And.intro ?_ ?_; · first | trivial | omega | (intro hg; simp only [Bool.and_eq_true, Bool.or_eq_true, Bool.not_eq_true', Bool.and_eq_false_iff, Bool.or_eq_false_iff, Bool.not_eq_false', decide_eq_true_eq, decide_eq_false_iff_not, eqNil] at hg; omega) )
      refine fOps_lay (by rfl) ?_
      refine aOps_alloc ze32 (cs := [.bool false, .str [], .int .i64 0]) (by rfl) fun k11q14 hk11q14 => ?_
      have ne_11q14_1q5 : k11q14 ≠ k1q5 := by simp only [AHeap.set_none] at hk11q14; simp only [hk11q14, ne_eq, not_false_eq_true]
      have ne_11q14_2q0 : k11q14 ≠ k2q0 := by simp only [AHeap.set_none] at hk11q14; simp only [hk11q14, ne_eq, not_false_eq_true]
      have ne_11q14_3q0 : k11q14 ≠ k3q0 := by simp only [AHeap.set_none] at hk11q14; simp only [hk11q14, ne_eq, not_false_eq_true]
      have ne_11q14_4q0 : k11q14 ≠ k4q0 := by simp only [AHeap.set_none] at hk11q14; simp only [hk11q14, ne_eq, not_false_eq_true]
      have ne_11q14_4q1 : k11q14 ≠ k4q1 := by simp only [AHeap.set_none] at hk11q14; simp only [hk11q14, ne_eq, not_false_eq_true]
      have ne_11q14_4q2 : k11q14 ≠ k4q2 := by simp only [AHeap.set_none] at hk11q14; simp only [hk11q14, ne_eq, not_false_eq_true]
      have ne_11q14_4q3 : k11q14 ≠ k4q3 := by simp only [AHeap.set_none] at hk11q14; simp only [hk11q14, ne_eq, not_false_eq_true]
      have ne_11q14_4q4 : k11q14 ≠ k4q4 := by simp only [AHeap.set_none] at hk11q14; simp only [hk11q14, ne_eq, not_false_eq_true]
      have ne_11q14_4q5 : k11q14 ≠ k4q5 := by simp only [AHeap.set_none] at hk11q14; simp only [hk11q14, ne_eq, not_false_eq_true]
      try have hf_11q14 : h k11q14 = none := by first | assumption | (simp only [AHeap.set_none] at hk11q14; simp only [hk11q14])
      have hkn : kW i ≠ k11q14 := by
        rw [hkW]
        match i, hi5 with
        | 0, _ => exact ne_11q14_4q0.symm
        | 1, _ => exact ne_11q14_4q1.symm
        | 2, _ => exact ne_11q14_4q2.symm
        | 3, _ => exact ne_11q14_4q3.symm
        | 4, _ => exact ne_11q14_4q4.symm
      rw [aOps_nil]
      repeat (with_reducible refine And.intro ?_ ?_; · first | trivial | omega | (intro hg; simp only [Bool.and_eq_true, Bool.or_eq_true, Bool.not_eq_true', Bool.and_eq_false_iff, Bool.or_eq_false_iff, Bool.not_eq_false', decide_eq_true_eq, decide_eq_false_iff_not, eqNil] at hg; omega) )
      try simp only [vOps_nil, fOps_nil]
      refine aOps_store (by rfl) (by rfl) (by repeat (first | exact AHeap.set_same _ _ _ | assumption | refine (AHeap.set_ne _ _ (by first | assumption | exact Ne.symm (by assumption))).trans ?_)) sz32 (by rfl) (by rfl) (by first | exact Nat.le_refl _ | decide | (simp; done) | (simp; omega)) (Nat.zero_le _) (by rfl) ?_
      simp only [AHeap.set_set, setAt, AVal.cells, List.set_cons_zero, List.set_cons_succ, Nat.zero_add, Nat.reduceAdd]
      simp (decide := true) only [aOps_nil, vOps_nil, fOps_nil, kOps_nil, ev, absV, absS, putD, Slots.put, Slots.get, Slots.keep, if_true, if_false, List.contains_cons, List.contains_nil, true_and, and_true, ↓ap_assign, pop_assign, rd_ne', ne_eq, not_false_eq_true, ne_2q0_1q5, ne_2q0_1q5.symm, ne_3q0_1q5, ne_3q0_1q5.symm, ne_3q0_2q0, ne_3q0_2q0.symm, ne_4q0_1q5, ne_4q0_1q5.symm, ne_4q0_2q0, ne_4q0_2q0.symm, ne_4q0_3q0, ne_4q0_3q0.symm, ne_4q1_1q5, ne_4q1_1q5.symm, ne_4q1_2q0, ne_4q1_2q0.symm, ne_4q1_3q0, ne_4q1_3q0.symm, ne_4q1_4q0, ne_4q1_4q0.symm, ne_4q2_1q5, ne_4q2_1q5.symm, ne_4q2_2q0, ne_4q2_2q0.symm, ne_4q2_3q0, ne_4q2_3q0.symm, ne_4q2_4q0, ne_4q2_4q0.symm, ne_4q2_4q1, ne_4q2_4q1.symm, ne_4q3_1q5, ne_4q3_1q5.symm, ne_4q3_2q0, ne_4q3_2q0.symm, ne_4q3_3q0, ne_4q3_3q0.symm, ne_4q3_4q0, ne_4q3_4q0.symm, ne_4q3_4q1, ne_4q3_4q1.symm, ne_4q3_4q2, ne_4q3_4q2.symm, ne_4q4_1q5, ne_4q4_1q5.symm, ne_4q4_2q0, ne_4q4_2q0.symm, ne_4q4_3q0, ne_4q4_3q0.symm, ne_4q4_4q0, ne_4q4_4q0.symm, ne_4q4_4q1, ne_4q4_4q1.symm, ne_4q4_4q2, ne_4q4_4q2.symm, ne_4q4_4q3, ne_4q4_4q3.symm, ne_4q5_1q5, ne_4q5_1q5.symm, ne_4q5_2q0, ne_4q5_2q0.symm, ne_4q5_3q0, ne_4q5_3q0.symm, ne_4q5_4q0, ne_4q5_4q0.symm, ne_4q5_4q1, ne_4q5_4q1.symm, ne_4q5_4q2, ne_4q5_4q2.symm, ne_4q5_4q3, ne_4q5_4q3.symm, ne_4q5_4q4, ne_4q5_4q4.symm, ne_11q14_1q5, ne_11q14_1q5.symm, ne_11q14_2q0, ne_11q14_2q0.symm, ne_11q14_3q0, ne_11q14_3q0.symm, ne_11q14_4q0, ne_11q14_4q0.symm, ne_11q14_4q1, ne_11q14_4q1.symm, ne_11q14_4q2, ne_11q14_4q2.symm, ne_11q14_4q3, ne_11q14_4q3.symm, ne_11q14_4q4, ne_11q14_4q4.symm, ne_11q14_4q5, ne_11q14_4q5.symm, rd_any, AVal.cells, setAt, List.set_cons_zero, List.set_cons_succ, cellsAt, List.getD_cons_zero, List.getD_cons_succ, Nat.zero_add, Nat.reduceAdd, lv_bool, lv_int, lv_str, lv_nilPtr, lv_ptr, lv_nilSlice, lv_slice, lv_nilFunc, lv_func, lv_nilIface, lv_iface, lv_nilMap, lv_agg, lv_tuple, allLive, Bool.and_true, decA, Int.toNat_natCast, Nat.mul_one, hd0, hd1, hd2, hsc]
      repeat (with_reducible refine And.intro ?_ ?_; · first | trivial | omega | (intro hg; simp only [Bool.and_eq_true, Bool.or_eq_true, Bool.not_eq_true', Bool.and_eq_false_iff, Bool.or_eq_false_iff, Bool.not_eq_false', decide_eq_true_eq, decide_eq_false_iff_not, eqNil] at hg; omega) )
      apply hK; clear hK K
      -- region 12  law.go:27
      refine awp_dseq_any [1, 2, 3, 4, 5, 6, 76] mixed (by kernel_rfl) (by rfl) fun K hK => ?_
      simp (decide := true) only [aOps_nil, vOps_nil, fOps_nil, kOps_nil, ev, absV, absS, putD, Slots.put, Slots.get, Slots.keep, if_true, if_false, List.contains_cons, List.contains_nil, true_and, and_true, ↓vp_move, pop_move, ↓vp_binOp, pop_binOp, isNilC_int, cond_false, pBinX_int, pI_neq, ↓vg_load, pop_load, vgQ_some, pop_indexAddr, agL_ld1, agL_ld2, agL_ld3, agL_ld4, agL_ld5, agL_ld6, vgP, gv, nthDst, gKnown_bool, gKnown_cond, guardB_cond, guardB_bool_true, guardB_bool_false, cv_cv, implies_true, Bool.not_not, decide_true, decide_false, Bool.not_false, Bool.not_true, condV_true, condV_false, forall_const, false_implies, pickV_true, pickV_false, Bool.and_true, Bool.and_false, Bool.true_and, Bool.false_and, Bool.or_true, Bool.or_false, Bool.true_or, Bool.false_or, pLoad_agg ag32 sz32, cv_load, cp_load, ↓vg_move, ↓vg_indexAddr, agL_il1, agL_il2, agL_il3, agL_il4, agL_il5, agL_il6, agL_ir5, agL_ir6, agL_ir1, agL_ir2, agL_ir3, agL_ir4, pIndexAddr_slice Tryd.underlying36 sz35, cv_iaddrl, cv_iaddrr, cp_iaddrl, cp_iaddrr, pLoad_one ag35, pIndexAddr_slice Tryd.underlying35 sz3, pLoad_one ag3, rd_ne', ne_eq, not_false_eq_true, ne_2q0_1q5, ne_2q0_1q5.symm, ne_3q0_1q5, ne_3q0_1q5.symm, ne_3q0_2q0, ne_3q0_2q0.symm, ne_4q0_1q5, ne_4q0_1q5.symm, ne_4q0_2q0, ne_4q0_2q0.symm, ne_4q0_3q0, ne_4q0_3q0.symm, ne_4q1_1q5, ne_4q1_1q5.symm, ne_4q1_2q0, ne_4q1_2q0.symm, ne_4q1_3q0, ne_4q1_3q0.symm, ne_4q1_4q0, ne_4q1_4q0.symm, ne_4q2_1q5, ne_4q2_1q5.symm, ne_4q2_2q0, ne_4q2_2q0.symm, ne_4q2_3q0, ne_4q2_3q0.symm, ne_4q2_4q0, ne_4q2_4q0.symm, ne_4q2_4q1, ne_4q2_4q1.symm, ne_4q3_1q5, ne_4q3_1q5.symm, ne_4q3_2q0, ne_4q3_2q0.symm, ne_4q3_3q0, ne_4q3_3q0.symm, ne_4q3_4q0, ne_4q3_4q0.symm, ne_4q3_4q1, ne_4q3_4q1.symm, ne_4q3_4q2, ne_4q3_4q2.symm, ne_4q4_1q5, ne_4q4_1q5.symm, ne_4q4_2q0, ne_4q4_2q0.symm, ne_4q4_3q0, ne_4q4_3q0.symm, ne_4q4_4q0, ne_4q4_4q0.symm, ne_4q4_4q1, ne_4q4_4q1.symm, ne_4q4_4q2, ne_4q4_4q2.symm, ne_4q4_4q3, ne_4q4_4q3.symm, ne_4q5_1q5, ne_4q5_1q5.symm, ne_4q5_2q0, ne_4q5_2q0.symm, ne_4q5_3q0, ne_4q5_3q0.symm, ne_4q5_4q0, ne_4q5_4q0.symm, ne_4q5_4q1, ne_4q5_4q1.symm, ne_4q5_4q2, ne_4q5_4q2.symm, ne_4q5_4q3, ne_4q5_4q3.symm, ne_4q5_4q4, ne_4q5_4q4.symm, ne_11q14_1q5, ne_11q14_1q5.symm, ne_11q14_2q0, ne_11q14_2q0.symm, ne_11q14_3q0, ne_11q14_3q0.symm, ne_11q14_4q0, ne_11q14_4q0.symm, ne_11q14_4q1, ne_11q14_4q1.symm, ne_11q14_4q2, ne_11q14_4q2.symm, ne_11q14_4q3, ne_11q14_4q3.symm, ne_11q14_4q4, ne_11q14_4q4.symm, ne_11q14_4q5, ne_11q14_4q5.symm, rd_any, AVal.cells, setAt, List.set_cons_zero, List.set_cons_succ, cellsAt, List.getD_cons_zero, List.getD_cons_succ, Nat.zero_add, Nat.reduceAdd, lv_bool, lv_int, lv_str, lv_nilPtr, lv_ptr, lv_nilSlice, lv_slice, lv_nilFunc, lv_func, lv_nilIface, lv_iface, lv_nilMap, lv_agg, lv_tuple, allLive, Bool.and_true, decA, Int.toNat_natCast, Nat.mul_one, hsc, huc, hwc, hrW, hkn]
      repeat (with_reducible refine And.intro ?_ ?_; · first | trivial | omega | (intro hg; simp only [Bool.and_eq_true, Bool.or_eq_true, Bool.not_eq_true', Bool.and_eq_false_iff, Bool.or_eq_false_iff, Bool.not_eq_false', decide_eq_true_eq, decide_eq_false_iff_not, eqNil] at hg; omega) )
      refine vOps_gcall (V := decA (canon (decide (exW i j < 0)) (exW i j).natAbs (exU i).toNat)) (f := _) (cap := _) (xs := _) (by first | rfl | (simp (decide := true) only [gv, nthDst, Slots.get, if_true, if_false, gKnown_cond, gKnown_bool])) (fun hg => ⟨rfl, ?_⟩) (fun hg => c_of13 w₀ ht _ (exW i j) (exU i) (by omega) (by omega) (by omega) (by omega)) ?_
      · try simp (decide := true) only [gv, nthDst, putD, Slots.put, Slots.get, if_true, if_false, guardB_bool_true, guardB_bool_false, guardB_cond, Bool.not_not] at hg
        simp (decide := true) only [evs, ev, putD, Slots.put, Slots.get, if_true, if_false, hg, condV_true, List.append_nil, List.map_cons, List.map_nil, absV, absS]
      simp (decide := true) only [aOps_nil, vOps_nil, fOps_nil, kOps_nil, ev, absV, absS, putD, Slots.put, Slots.get, Slots.keep, if_true, if_false, List.contains_cons, List.contains_nil, true_and, and_true, gv, nthDst, guardB_bool_true, guardB_bool_false, guardB_cond, ↓vg_binOp, pop_binOp, vgP, vgQ_some, gKnown_bool, gKnown_cond, cv_cv, implies_true, Bool.not_not, decide_true, decide_false, Bool.not_false, Bool.not_true, condV_true, condV_false, forall_const, false_implies, pickV_true, pickV_false, Bool.and_true, Bool.and_false, Bool.true_and, Bool.false_and, Bool.or_true, Bool.or_false, Bool.true_or, Bool.false_or, isNilC_tmp, cond_false, cv_binl, cv_binr, cp_binl, cp_binr, pBinX_agg, ne32, ↓vp_pick, pop_pick, pPick_bool, pickV_cond_l, pickV_cond_r, pickV_cond_rn, cp_nest1, cp_nest2, cp_nest3, cp_nest4, pickV_and, pickV_or, rd_ne', ne_eq, not_false_eq_true, ne_2q0_1q5, ne_2q0_1q5.symm, ne_3q0_1q5, ne_3q0_1q5.symm, ne_3q0_2q0, ne_3q0_2q0.symm, ne_4q0_1q5, ne_4q0_1q5.symm, ne_4q0_2q0, ne_4q0_2q0.symm, ne_4q0_3q0, ne_4q0_3q0.symm, ne_4q1_1q5, ne_4q1_1q5.symm, ne_4q1_2q0, ne_4q1_2q0.symm, ne_4q1_3q0, ne_4q1_3q0.symm, ne_4q1_4q0, ne_4q1_4q0.symm, ne_4q2_1q5, ne_4q2_1q5.symm, ne_4q2_2q0, ne_4q2_2q0.symm, ne_4q2_3q0, ne_4q2_3q0.symm, ne_4q2_4q0, ne_4q2_4q0.symm, ne_4q2_4q1, ne_4q2_4q1.symm, ne_4q3_1q5, ne_4q3_1q5.symm, ne_4q3_2q0, ne_4q3_2q0.symm, ne_4q3_3q0, ne_4q3_3q0.symm, ne_4q3_4q0, ne_4q3_4q0.symm, ne_4q3_4q1, ne_4q3_4q1.symm, ne_4q3_4q2, ne_4q3_4q2.symm, ne_4q4_1q5, ne_4q4_1q5.symm, ne_4q4_2q0, ne_4q4_2q0.symm, ne_4q4_3q0, ne_4q4_3q0.symm, ne_4q4_4q0, ne_4q4_4q0.symm, ne_4q4_4q1, ne_4q4_4q1.symm, ne_4q4_4q2, ne_4q4_4q2.symm, ne_4q4_4q3, ne_4q4_4q3.symm, ne_4q5_1q5, ne_4q5_1q5.symm, ne_4q5_2q0, ne_4q5_2q0.symm, ne_4q5_3q0, ne_4q5_3q0.symm, ne_4q5_4q0, ne_4q5_4q0.symm, ne_4q5_4q1, ne_4q5_4q1.symm, ne_4q5_4q2, ne_4q5_4q2.symm, ne_4q5_4q3, ne_4q5_4q3.symm, ne_4q5_4q4, ne_4q5_4q4.symm, ne_11q14_1q5, ne_11q14_1q5.symm, ne_11q14_2q0, ne_11q14_2q0.symm, ne_11q14_3q0, ne_11q14_3q0.symm, ne_11q14_4q0, ne_11q14_4q0.symm, ne_11q14_4q1, ne_11q14_4q1.symm, ne_11q14_4q2, ne_11q14_4q2.symm, ne_11q14_4q3, ne_11q14_4q3.symm, ne_11q14_4q4, ne_11q14_4q4.symm, ne_11q14_4q5, ne_11q14_4q5.symm, rd_any, AVal.cells, setAt, List.set_cons_zero, List.set_cons_succ, cellsAt, List.getD_cons_zero, List.getD_cons_succ, Nat.zero_add, Nat.reduceAdd, lv_bool, lv_int, lv_str, lv_nilPtr, lv_ptr, lv_nilSlice, lv_slice, lv_nilFunc, lv_func, lv_nilIface, lv_iface, lv_nilMap, lv_agg, lv_tuple, allLive, Bool.and_true, decA, Int.toNat_natCast, Nat.mul_one, hsc, huc, hwc, hrW, hkn]
      repeat (with_reducible refine And.intro ?_ ?_; · first | trivial | omega | (intro hg; simp only [Bool.and_eq_true, Bool.or_eq_true, Bool.not_eq_true', Bool.and_eq_false_iff, Bool.or_eq_false_iff, Bool.not_eq_false', decide_eq_true_eq, decide_eq_false_iff_not, eqNil] at hg; omega) )
      apply hK; clear hK K
      refine awp_cond (b := _) rfl (fun hb3 => ?_) (fun hb3 => ?_)
      · try simp only [decide_eq_true_eq, decide_eq_false_iff_not, Bool.not_eq_true', Bool.not_eq_false', Bool.and_eq_true, Bool.and_eq_false_iff, Bool.or_eq_true, Bool.or_eq_false_iff, Bool.true_eq, Bool.false_eq, reduceCtorEq] at hb3
        exfalso; simp at hb3
      · try simp only [decide_eq_true_eq, decide_eq_false_iff_not, Bool.not_eq_true', Bool.not_eq_false', Bool.and_eq_true, Bool.and_eq_false_iff, Bool.or_eq_true, Bool.or_eq_false_iff, Bool.true_eq, Bool.false_eq, reduceCtorEq] at hb3
        refine awp_skip ?_
        change Awp _ _ _ _ _ _ _
        -- region 10  law.go:25
        refine awp_r [1, 2, 3, 4, 5, 6] (by rfl) ?_
        simp (decide := true) only [aOps_nil, vOps_nil, fOps_nil, kOps_nil, ev, absV, absS, putD, Slots.put, Slots.get, Slots.keep, if_true, if_false, List.contains_cons, List.contains_nil, true_and, and_true, ↓ap_move, pop_move, ↓ap_binOp, pop_binOp, isNilC_int, cond_false, pBinX_int, pI_add, ↓ap_assign, pop_assign, rd_ne', ne_eq, not_false_eq_true, ne_2q0_1q5, ne_2q0_1q5.symm, ne_3q0_1q5, ne_3q0_1q5.symm, ne_3q0_2q0, ne_3q0_2q0.symm, ne_4q0_1q5, ne_4q0_1q5.symm, ne_4q0_2q0, ne_4q0_2q0.symm, ne_4q0_3q0, ne_4q0_3q0.symm, ne_4q1_1q5, ne_4q1_1q5.symm, ne_4q1_2q0, ne_4q1_2q0.symm, ne_4q1_3q0, ne_4q1_3q0.symm, ne_4q1_4q0, ne_4q1_4q0.symm, ne_4q2_1q5, ne_4q2_1q5.symm, ne_4q2_2q0, ne_4q2_2q0.symm, ne_4q2_3q0, ne_4q2_3q0.symm, ne_4q2_4q0, ne_4q2_4q0.symm, ne_4q2_4q1, ne_4q2_4q1.symm, ne_4q3_1q5, ne_4q3_1q5.symm, ne_4q3_2q0, ne_4q3_2q0.symm, ne_4q3_3q0, ne_4q3_3q0.symm, ne_4q3_4q0, ne_4q3_4q0.symm, ne_4q3_4q1, ne_4q3_4q1.symm, ne_4q3_4q2, ne_4q3_4q2.symm, ne_4q4_1q5, ne_4q4_1q5.symm, ne_4q4_2q0, ne_4q4_2q0.symm, ne_4q4_3q0, ne_4q4_3q0.symm, ne_4q4_4q0, ne_4q4_4q0.symm, ne_4q4_4q1, ne_4q4_4q1.symm, ne_4q4_4q2, ne_4q4_4q2.symm, ne_4q4_4q3, ne_4q4_4q3.symm, ne_4q5_1q5, ne_4q5_1q5.symm, ne_4q5_2q0, ne_4q5_2q0.symm, ne_4q5_3q0, ne_4q5_3q0.symm, ne_4q5_4q0, ne_4q5_4q0.symm, ne_4q5_4q1, ne_4q5_4q1.symm, ne_4q5_4q2, ne_4q5_4q2.symm, ne_4q5_4q3, ne_4q5_4q3.symm, ne_4q5_4q4, ne_4q5_4q4.symm, ne_11q14_1q5, ne_11q14_1q5.symm, ne_11q14_2q0, ne_11q14_2q0.symm, ne_11q14_3q0, ne_11q14_3q0.symm, ne_11q14_4q0, ne_11q14_4q0.symm, ne_11q14_4q1, ne_11q14_4q1.symm, ne_11q14_4q2, ne_11q14_4q2.symm, ne_11q14_4q3, ne_11q14_4q3.symm, ne_11q14_4q4, ne_11q14_4q4.symm, ne_11q14_4q5, ne_11q14_4q5.symm, rd_any, AVal.cells, setAt, List.set_cons_zero, List.set_cons_succ, cellsAt, List.getD_cons_zero, List.getD_cons_succ, Nat.zero_add, Nat.reduceAdd, lv_bool, lv_int, lv_str, lv_nilPtr, lv_ptr, lv_nilSlice, lv_slice, lv_nilFunc, lv_func, lv_nilIface, lv_iface, lv_nilMap, lv_agg, lv_tuple, allLive, Bool.and_true, decA]
        try simp (disch := omega) only [wrap_i64, wrap_u8]
        repeat (with_reducible refine And.intro ?_ ?_; · first | trivial | omega | (intro hg; simp only [Bool.and_eq_true, Bool.or_eq_true, Bool.not_eq_true', Bool.and_eq_false_iff, Bool.or_eq_false_iff, Bool.not_eq_false', decide_eq_true_eq, decide_eq_false_iff_not, eqNil] at hg; omega) )
        try simp only [thenA_normal, inBlockA_normal]
        refine ⟨j + 1, rfl, (by repeat (first | exact Sub.refl _ | refine Sub.trans_set ?_ (by simp only [AHeap.set_none] at hk11q14; simp only [AHeap.set_none, hk11q14, ne_eq, not_false_eq_true, and_true]))), by omega, by omega⟩
    · try simp only [decide_eq_true_eq, decide_eq_false_iff_not, Bool.not_eq_true', Bool.not_eq_false', Bool.and_eq_true, Bool.and_eq_false_iff, Bool.or_eq_true, Bool.or_eq_false_iff, Bool.true_eq, Bool.false_eq, reduceCtorEq] at hb2
      refine awp_exit ?_
      change Awp _ _ _ _ _ _ _
      -- region 7  law.go:24
      refine awp_r [1, 2, 3, 4, 5] (by rfl) ?_
      simp (decide := true) only [aOps_nil, vOps_nil, fOps_nil, kOps_nil, ev, absV, absS, putD, Slots.put, Slots.get, Slots.keep, if_true, if_false, List.contains_cons, List.contains_nil, true_and, and_true, ↓ap_move, pop_move, ↓ap_binOp, pop_binOp, isNilC_int, cond_false, pBinX_int, pI_add, ↓ap_assign, pop_assign, rd_ne', ne_eq, not_false_eq_true, ne_2q0_1q5, ne_2q0_1q5.symm, ne_3q0_1q5, ne_3q0_1q5.symm, ne_3q0_2q0, ne_3q0_2q0.symm, ne_4q0_1q5, ne_4q0_1q5.symm, ne_4q0_2q0, ne_4q0_2q0.symm, ne_4q0_3q0, ne_4q0_3q0.symm, ne_4q1_1q5, ne_4q1_1q5.symm, ne_4q1_2q0, ne_4q1_2q0.symm, ne_4q1_3q0, ne_4q1_3q0.symm, ne_4q1_4q0, ne_4q1_4q0.symm, ne_4q2_1q5, ne_4q2_1q5.symm, ne_4q2_2q0, ne_4q2_2q0.symm, ne_4q2_3q0, ne_4q2_3q0.symm, ne_4q2_4q0, ne_4q2_4q0.symm, ne_4q2_4q1, ne_4q2_4q1.symm, ne_4q3_1q5, ne_4q3_1q5.symm, ne_4q3_2q0, ne_4q3_2q0.symm, ne_4q3_3q0, ne_4q3_3q0.symm, ne_4q3_4q0, ne_4q3_4q0.symm, ne_4q3_4q1, ne_4q3_4q1.symm, ne_4q3_4q2, ne_4q3_4q2.symm, ne_4q4_1q5, ne_4q4_1q5.symm, ne_4q4_2q0, ne_4q4_2q0.symm, ne_4q4_3q0, ne_4q4_3q0.symm, ne_4q4_4q0, ne_4q4_4q0.symm, ne_4q4_4q1, ne_4q4_4q1.symm, ne_4q4_4q2, ne_4q4_4q2.symm, ne_4q4_4q3, ne_4q4_4q3.symm, ne_4q5_1q5, ne_4q5_1q5.symm, ne_4q5_2q0, ne_4q5_2q0.symm, ne_4q5_3q0, ne_4q5_3q0.symm, ne_4q5_4q0, ne_4q5_4q0.symm, ne_4q5_4q1, ne_4q5_4q1.symm, ne_4q5_4q2, ne_4q5_4q2.symm, ne_4q5_4q3, ne_4q5_4q3.symm, ne_4q5_4q4, ne_4q5_4q4.symm, rd_any, AVal.cells, setAt, List.set_cons_zero, List.set_cons_succ, cellsAt, List.getD_cons_zero, List.getD_cons_succ, Nat.zero_add, Nat.reduceAdd, lv_bool, lv_int, lv_str, lv_nilPtr, lv_ptr, lv_nilSlice, lv_slice, lv_nilFunc, lv_func, lv_nilIface, lv_iface, lv_nilMap, lv_agg, lv_tuple, allLive, Bool.and_true, decA]
      try simp (disch := omega) only [wrap_i64, wrap_u8]
      repeat (with_reducible refine And.intro ?_ ?_; · first | trivial | omega | (intro hg; simp only [Bool.and_eq_true, Bool.or_eq_true, Bool.not_eq_true', Bool.and_eq_false_iff, Bool.or_eq_false_iff, Bool.not_eq_false', decide_eq_true_eq, decide_eq_false_iff_not, eqNil] at hg; omega) )
      try simp only [thenA_normal, inBlockA_normal]
      refine ⟨i + 1, rfl, Sub.refl _, by omega, by omega⟩
  · try simp only [decide_eq_true_eq, decide_eq_false_iff_not, Bool.not_eq_true', Bool.not_eq_false', Bool.and_eq_true, Bool.and_eq_false_iff, Bool.or_eq_true, Bool.or_eq_false_iff, Bool.true_eq, Bool.false_eq, reduceCtorEq] at hb1
    refine awp_exit ?_
    change Awp _ _ _ _ _ _ _
    -- region 14  law.go:32
    refine awp_rseq [10] (by rfl) fun K hK => ?_
    simp (decide := true) only [aOps_nil, vOps_nil, fOps_nil, kOps_nil, ev, absV, absS, putD, Slots.put, Slots.get, Slots.keep, if_true, if_false, List.contains_cons, List.contains_nil, true_and, and_true, ↓ap_move, pop_move, ↓ap_indexAddrL, apL_mk, pIndexAddr_slice Tryd.underlying34 sz32, ↓ap_loadL, pLoad_agg ag32 sz32, rd_ne', ne_eq, not_false_eq_true, ne_2q0_1q5, ne_2q0_1q5.symm, ne_3q0_1q5, ne_3q0_1q5.symm, ne_3q0_2q0, ne_3q0_2q0.symm, ne_4q0_1q5, ne_4q0_1q5.symm, ne_4q0_2q0, ne_4q0_2q0.symm, ne_4q0_3q0, ne_4q0_3q0.symm, ne_4q1_1q5, ne_4q1_1q5.symm, ne_4q1_2q0, ne_4q1_2q0.symm, ne_4q1_3q0, ne_4q1_3q0.symm, ne_4q1_4q0, ne_4q1_4q0.symm, ne_4q2_1q5, ne_4q2_1q5.symm, ne_4q2_2q0, ne_4q2_2q0.symm, ne_4q2_3q0, ne_4q2_3q0.symm, ne_4q2_4q0, ne_4q2_4q0.symm, ne_4q2_4q1, ne_4q2_4q1.symm, ne_4q3_1q5, ne_4q3_1q5.symm, ne_4q3_2q0, ne_4q3_2q0.symm, ne_4q3_3q0, ne_4q3_3q0.symm, ne_4q3_4q0, ne_4q3_4q0.symm, ne_4q3_4q1, ne_4q3_4q1.symm, ne_4q3_4q2, ne_4q3_4q2.symm, ne_4q4_1q5, ne_4q4_1q5.symm, ne_4q4_2q0, ne_4q4_2q0.symm, ne_4q4_3q0, ne_4q4_3q0.symm, ne_4q4_4q0, ne_4q4_4q0.symm, ne_4q4_4q1, ne_4q4_4q1.symm, ne_4q4_4q2, ne_4q4_4q2.symm, ne_4q4_4q3, ne_4q4_4q3.symm, ne_4q5_1q5, ne_4q5_1q5.symm, ne_4q5_2q0, ne_4q5_2q0.symm, ne_4q5_3q0, ne_4q5_3q0.symm, ne_4q5_4q0, ne_4q5_4q0.symm, ne_4q5_4q1, ne_4q5_4q1.symm, ne_4q5_4q2, ne_4q5_4q2.symm, ne_4q5_4q3, ne_4q5_4q3.symm, ne_4q5_4q4, ne_4q5_4q4.symm, rd_any, AVal.cells, setAt, List.set_cons_zero, List.set_cons_succ, cellsAt, List.getD_cons_zero, List.getD_cons_succ, Nat.zero_add, Nat.reduceAdd, lv_bool, lv_int, lv_str, lv_nilPtr, lv_ptr, lv_nilSlice, lv_slice, lv_nilFunc, lv_func, lv_nilIface, lv_iface, lv_nilMap, lv_agg, lv_tuple, allLive, Bool.and_true, decA]
    repeat (with_reducible refine And.intro ?_ ?_; · first | trivial | omega | (intro hg; simp only [Bool.and_eq_true, Bool.or_eq_true, Bool.not_eq_true', Bool.and_eq_false_iff, Bool.or_eq_false_iff, Bool.not_eq_false', decide_eq_true_eq, decide_eq_false_iff_not, eqNil] at hg; omega) )
    refine aOps_callV (V := .tuple [decA noD, .int .i64 14]) (by rfl) (by rfl) ((c_Round w₀ _ (exD 0) 0 7 (ex_len 0 (by omega)) (by omega) (by omega) (by omega)).val (by rw [ex_prohibited])) ?_
    simp (decide := true) only [aOps_nil, vOps_nil, fOps_nil, kOps_nil, ev, absV, absS, putD, Slots.put, Slots.get, Slots.keep, if_true, if_false, List.contains_cons, List.contains_nil, true_and, and_true, ↓ap_move, pop_move, ↓ap_extract, pop_extract, pExt_tuple, List.length_cons, List.length_nil, List.getD_cons_zero, List.getD_cons_succ, rd_ne', ne_eq, not_false_eq_true, ne_2q0_1q5, ne_2q0_1q5.symm, ne_3q0_1q5, ne_3q0_1q5.symm, ne_3q0_2q0, ne_3q0_2q0.symm, ne_4q0_1q5, ne_4q0_1q5.symm, ne_4q0_2q0, ne_4q0_2q0.symm, ne_4q0_3q0, ne_4q0_3q0.symm, ne_4q1_1q5, ne_4q1_1q5.symm, ne_4q1_2q0, ne_4q1_2q0.symm, ne_4q1_3q0, ne_4q1_3q0.symm, ne_4q1_4q0, ne_4q1_4q0.symm, ne_4q2_1q5, ne_4q2_1q5.symm, ne_4q2_2q0, ne_4q2_2q0.symm, ne_4q2_3q0, ne_4q2_3q0.symm, ne_4q2_4q0, ne_4q2_4q0.symm, ne_4q2_4q1, ne_4q2_4q1.symm, ne_4q3_1q5, ne_4q3_1q5.symm, ne_4q3_2q0, ne_4q3_2q0.symm, ne_4q3_3q0, ne_4q3_3q0.symm, ne_4q3_4q0, ne_4q3_4q0.symm, ne_4q3_4q1, ne_4q3_4q1.symm, ne_4q3_4q2, ne_4q3_4q2.symm, ne_4q4_1q5, ne_4q4_1q5.symm, ne_4q4_2q0, ne_4q4_2q0.symm, ne_4q4_3q0, ne_4q4_3q0.symm, ne_4q4_4q0, ne_4q4_4q0.symm, ne_4q4_4q1, ne_4q4_4q1.symm, ne_4q4_4q2, ne_4q4_4q2.symm, ne_4q4_4q3, ne_4q4_4q3.symm, ne_4q5_1q5, ne_4q5_1q5.symm, ne_4q5_2q0, ne_4q5_2q0.symm, ne_4q5_3q0, ne_4q5_3q0.symm, ne_4q5_4q0, ne_4q5_4q0.symm, ne_4q5_4q1, ne_4q5_4q1.symm, ne_4q5_4q2, ne_4q5_4q2.symm, ne_4q5_4q3, ne_4q5_4q3.symm, ne_4q5_4q4, ne_4q5_4q4.symm, rd_any, AVal.cells, setAt, List.set_cons_zero, List.set_cons_succ, cellsAt, List.getD_cons_zero, List.getD_cons_succ, Nat.zero_add, Nat.reduceAdd, lv_bool, lv_int, lv_str, lv_nilPtr, lv_ptr, lv_nilSlice, lv_slice, lv_nilFunc, lv_func, lv_nilIface, lv_iface, lv_nilMap, lv_agg, lv_tuple, allLive, Bool.and_true, decA]
    repeat (with_reducible refine And.intro ?_ ?_; · first | trivial | omega | (intro hg; simp only [Bool.and_eq_true, Bool.or_eq_true, Bool.not_eq_true', Bool.and_eq_false_iff, Bool.or_eq_false_iff, Bool.not_eq_false', decide_eq_true_eq, decide_eq_false_iff_not, eqNil] at hg; omega) )
    refine aOps_alloc ze32 (cs := [.bool false, .str [], .int .i64 0]) (by rfl) fun k14q7 hk14q7 => ?_
    have ne_14q7_1q5 : k14q7 ≠ k1q5 := by simp only [AHeap.set_none] at hk14q7; simp only [hk14q7, ne_eq, not_false_eq_true]
    have ne_14q7_2q0 : k14q7 ≠ k2q0 := by simp only [AHeap.set_none] at hk14q7; simp only [hk14q7, ne_eq, not_false_eq_true]
    have ne_14q7_3q0 : k14q7 ≠ k3q0 := by simp only [AHeap.set_none] at hk14q7; simp only [hk14q7, ne_eq, not_false_eq_true]
    have ne_14q7_4q0 : k14q7 ≠ k4q0 := by simp only [AHeap.set_none] at hk14q7; simp only [hk14q7, ne_eq, not_false_eq_true]
    have ne_14q7_4q1 : k14q7 ≠ k4q1 := by simp only [AHeap.set_none] at hk14q7; simp only [hk14q7, ne_eq, not_false_eq_true]
    have ne_14q7_4q2 : k14q7 ≠ k4q2 := by simp only [AHeap.set_none] at hk14q7; simp only [hk14q7, ne_eq, not_false_eq_true]
    have ne_14q7_4q3 : k14q7 ≠ k4q3 := by simp only [AHeap.set_none] at hk14q7; simp only [hk14q7, ne_eq, not_false_eq_true]
    have ne_14q7_4q4 : k14q7 ≠ k4q4 := by simp only [AHeap.set_none] at hk14q7; simp only [hk14q7, ne_eq, not_false_eq_true]
    have ne_14q7_4q5 : k14q7 ≠ k4q5 := by simp only [AHeap.set_none] at hk14q7; simp only [hk14q7, ne_eq, not_false_eq_true]
    try have hf_14q7 : h k14q7 = none := by first | assumption | (simp only [AHeap.set_none] at hk14q7; simp only [hk14q7])
    refine aOps_store (by rfl) (by rfl) (by repeat (first | exact AHeap.set_same _ _ _ | assumption | refine (AHeap.set_ne _ _ (by first | assumption | exact Ne.symm (by assumption))).trans ?_)) sz32 (by rfl) (by rfl) (by first | exact Nat.le_refl _ | decide | (simp; done) | (simp; omega)) (Nat.zero_le _) (by rfl) ?_
    simp only [AHeap.set_set, setAt, AVal.cells, List.set_cons_zero, List.set_cons_succ, Nat.zero_add, Nat.reduceAdd]
    simp (decide := true) only [aOps_nil, vOps_nil, fOps_nil, kOps_nil, ev, absV, absS, putD, Slots.put, Slots.get, Slots.keep, if_true, if_false, List.contains_cons, List.contains_nil, true_and, and_true, ↓ap_assign, pop_assign, rd_ne', ne_eq, not_false_eq_true, ne_2q0_1q5, ne_2q0_1q5.symm, ne_3q0_1q5, ne_3q0_1q5.symm, ne_3q0_2q0, ne_3q0_2q0.symm, ne_4q0_1q5, ne_4q0_1q5.symm, ne_4q0_2q0, ne_4q0_2q0.symm, ne_4q0_3q0, ne_4q0_3q0.symm, ne_4q1_1q5, ne_4q1_1q5.symm, ne_4q1_2q0, ne_4q1_2q0.symm, ne_4q1_3q0, ne_4q1_3q0.symm, ne_4q1_4q0, ne_4q1_4q0.symm, ne_4q2_1q5, ne_4q2_1q5.symm, ne_4q2_2q0, ne_4q2_2q0.symm, ne_4q2_3q0, ne_4q2_3q0.symm, ne_4q2_4q0, ne_4q2_4q0.symm, ne_4q2_4q1, ne_4q2_4q1.symm, ne_4q3_1q5, ne_4q3_1q5.symm, ne_4q3_2q0, ne_4q3_2q0.symm, ne_4q3_3q0, ne_4q3_3q0.symm, ne_4q3_4q0, ne_4q3_4q0.symm, ne_4q3_4q1, ne_4q3_4q1.symm, ne_4q3_4q2, ne_4q3_4q2.symm, ne_4q4_1q5, ne_4q4_1q5.symm, ne_4q4_2q0, ne_4q4_2q0.symm, ne_4q4_3q0, ne_4q4_3q0.symm, ne_4q4_4q0, ne_4q4_4q0.symm, ne_4q4_4q1, ne_4q4_4q1.symm, ne_4q4_4q2, ne_4q4_4q2.symm, ne_4q4_4q3, ne_4q4_4q3.symm, ne_4q5_1q5, ne_4q5_1q5.symm, ne_4q5_2q0, ne_4q5_2q0.symm, ne_4q5_3q0, ne_4q5_3q0.symm, ne_4q5_4q0, ne_4q5_4q0.symm, ne_4q5_4q1, ne_4q5_4q1.symm, ne_4q5_4q2, ne_4q5_4q2.symm, ne_4q5_4q3, ne_4q5_4q3.symm, ne_4q5_4q4, ne_4q5_4q4.symm, ne_14q7_1q5, ne_14q7_1q5.symm, ne_14q7_2q0, ne_14q7_2q0.symm, ne_14q7_3q0, ne_14q7_3q0.symm, ne_14q7_4q0, ne_14q7_4q0.symm, ne_14q7_4q1, ne_14q7_4q1.symm, ne_14q7_4q2, ne_14q7_4q2.symm, ne_14q7_4q3, ne_14q7_4q3.symm, ne_14q7_4q4, ne_14q7_4q4.symm, ne_14q7_4q5, ne_14q7_4q5.symm, rd_any, AVal.cells, setAt, List.set_cons_zero, List.set_cons_succ, cellsAt, List.getD_cons_zero, List.getD_cons_succ, Nat.zero_add, Nat.reduceAdd, lv_bool, lv_int, lv_str, lv_nilPtr, lv_ptr, lv_nilSlice, lv_slice, lv_nilFunc, lv_func, lv_nilIface, lv_iface, lv_nilMap, lv_agg, lv_tuple, allLive, Bool.and_true, decA]
    repeat (with_reducible refine And.intro ?_ ?_; · first | trivial | omega | (intro hg; simp only [Bool.and_eq_true, Bool.or_eq_true, Bool.not_eq_true', Bool.and_eq_false_iff, Bool.or_eq_false_iff, Bool.not_eq_false', decide_eq_true_eq, decide_eq_false_iff_not, eqNil] at hg; omega) )
    apply hK; clear hK K
    -- region 15  law.go:33
    refine awp_rseq [10, 11] (by rfl) fun K hK => ?_
    refine aOps_callV (V := decA exM) (by rfl) (by rfl) ((c_of13 w₀ ht _ (-125) 1 (by omega) (by omega) (by omega) (by omega)).val rfl) ?_
    refine aOps_callV (V := .tuple [.bool true, .int .i64 0]) (by rfl) (by rfl) ((c_Fits w₀ _ exM 3 1 exM_len (by omega) (by omega)).val (by rw [ex_fits1])) ?_
    simp (decide := true) only [aOps_nil, vOps_nil, fOps_nil, kOps_nil, ev, absV, absS, putD, Slots.put, Slots.get, Slots.keep, if_true, if_false, List.contains_cons, List.contains_nil, true_and, and_true, ↓ap_move, pop_move, ↓ap_extract, pop_extract, pExt_tuple, List.length_cons, List.length_nil, List.getD_cons_zero, List.getD_cons_succ, ↓ap_assign, pop_assign, rd_ne', ne_eq, not_false_eq_true, ne_2q0_1q5, ne_2q0_1q5.symm, ne_3q0_1q5, ne_3q0_1q5.symm, ne_3q0_2q0, ne_3q0_2q0.symm, ne_4q0_1q5, ne_4q0_1q5.symm, ne_4q0_2q0, ne_4q0_2q0.symm, ne_4q0_3q0, ne_4q0_3q0.symm, ne_4q1_1q5, ne_4q1_1q5.symm, ne_4q1_2q0, ne_4q1_2q0.symm, ne_4q1_3q0, ne_4q1_3q0.symm, ne_4q1_4q0, ne_4q1_4q0.symm, ne_4q2_1q5, ne_4q2_1q5.symm, ne_4q2_2q0, ne_4q2_2q0.symm, ne_4q2_3q0, ne_4q2_3q0.symm, ne_4q2_4q0, ne_4q2_4q0.symm, ne_4q2_4q1, ne_4q2_4q1.symm, ne_4q3_1q5, ne_4q3_1q5.symm, ne_4q3_2q0, ne_4q3_2q0.symm, ne_4q3_3q0, ne_4q3_3q0.symm, ne_4q3_4q0, ne_4q3_4q0.symm, ne_4q3_4q1, ne_4q3_4q1.symm, ne_4q3_4q2, ne_4q3_4q2.symm, ne_4q4_1q5, ne_4q4_1q5.symm, ne_4q4_2q0, ne_4q4_2q0.symm, ne_4q4_3q0, ne_4q4_3q0.symm, ne_4q4_4q0, ne_4q4_4q0.symm, ne_4q4_4q1, ne_4q4_4q1.symm, ne_4q4_4q2, ne_4q4_4q2.symm, ne_4q4_4q3, ne_4q4_4q3.symm, ne_4q5_1q5, ne_4q5_1q5.symm, ne_4q5_2q0, ne_4q5_2q0.symm, ne_4q5_3q0, ne_4q5_3q0.symm, ne_4q5_4q0, ne_4q5_4q0.symm, ne_4q5_4q1, ne_4q5_4q1.symm, ne_4q5_4q2, ne_4q5_4q2.symm, ne_4q5_4q3, ne_4q5_4q3.symm, ne_4q5_4q4, ne_4q5_4q4.symm, ne_14q7_1q5, ne_14q7_1q5.symm, ne_14q7_2q0, ne_14q7_2q0.symm, ne_14q7_3q0, ne_14q7_3q0.symm, ne_14q7_4q0, ne_14q7_4q0.symm, ne_14q7_4q1, ne_14q7_4q1.symm, ne_14q7_4q2, ne_14q7_4q2.symm, ne_14q7_4q3, ne_14q7_4q3.symm, ne_14q7_4q4, ne_14q7_4q4.symm, ne_14q7_4q5, ne_14q7_4q5.symm, rd_any, AVal.cells, setAt, List.set_cons_zero, List.set_cons_succ, cellsAt, List.getD_cons_zero, List.getD_cons_succ, Nat.zero_add, Nat.reduceAdd, lv_bool, lv_int, lv_str, lv_nilPtr, lv_ptr, lv_nilSlice, lv_slice, lv_nilFunc, lv_func, lv_nilIface, lv_iface, lv_nilMap, lv_agg, lv_tuple, allLive, Bool.and_true, decA]
    repeat (with_reducible refine And.intro ?_ ?_; · first | trivial | omega | (intro hg; simp only [Bool.and_eq_true, Bool.or_eq_true, Bool.not_eq_true', Bool.and_eq_false_iff, Bool.or_eq_false_iff, Bool.not_eq_false', decide_eq_true_eq, decide_eq_false_iff_not, eqNil] at hg; omega) )
    apply hK; clear hK K
    -- region 16  law.go:34
    refine awp_rseq [10, 11, 13] (by rfl) fun K hK => ?_
    refine aOps_callV (V := decA exM) (by rfl) (by rfl) ((c_of13 w₀ ht _ (-125) 1 (by omega) (by omega) (by omega) (by omega)).val rfl) ?_
    refine aOps_callV (V := .tuple [.bool false, .int .i64 0]) (by rfl) (by rfl) ((c_Fits w₀ _ exM 2 1 exM_len (by omega) (by omega)).val (by rw [ex_fits2])) ?_
    simp (decide := true) only [aOps_nil, vOps_nil, fOps_nil, kOps_nil, ev, absV, absS, putD, Slots.put, Slots.get, Slots.keep, if_true, if_false, List.contains_cons, List.contains_nil, true_and, and_true, ↓ap_move, pop_move, ↓ap_extract, pop_extract, pExt_tuple, List.length_cons, List.length_nil, List.getD_cons_zero, List.getD_cons_succ, ↓ap_assign, pop_assign, rd_ne', ne_eq, not_false_eq_true, ne_2q0_1q5, ne_2q0_1q5.symm, ne_3q0_1q5, ne_3q0_1q5.symm, ne_3q0_2q0, ne_3q0_2q0.symm, ne_4q0_1q5, ne_4q0_1q5.symm, ne_4q0_2q0, ne_4q0_2q0.symm, ne_4q0_3q0, ne_4q0_3q0.symm, ne_4q1_1q5, ne_4q1_1q5.symm, ne_4q1_2q0, ne_4q1_2q0.symm, ne_4q1_3q0, ne_4q1_3q0.symm, ne_4q1_4q0, ne_4q1_4q0.symm, ne_4q2_1q5, ne_4q2_1q5.symm, ne_4q2_2q0, ne_4q2_2q0.symm, ne_4q2_3q0, ne_4q2_3q0.symm, ne_4q2_4q0, ne_4q2_4q0.symm, ne_4q2_4q1, ne_4q2_4q1.symm, ne_4q3_1q5, ne_4q3_1q5.symm, ne_4q3_2q0, ne_4q3_2q0.symm, ne_4q3_3q0, ne_4q3_3q0.symm, ne_4q3_4q0, ne_4q3_4q0.symm, ne_4q3_4q1, ne_4q3_4q1.symm, ne_4q3_4q2, ne_4q3_4q2.symm, ne_4q4_1q5, ne_4q4_1q5.symm, ne_4q4_2q0, ne_4q4_2q0.symm, ne_4q4_3q0, ne_4q4_3q0.symm, ne_4q4_4q0, ne_4q4_4q0.symm, ne_4q4_4q1, ne_4q4_4q1.symm, ne_4q4_4q2, ne_4q4_4q2.symm, ne_4q4_4q3, ne_4q4_4q3.symm, ne_4q5_1q5, ne_4q5_1q5.symm, ne_4q5_2q0, ne_4q5_2q0.symm, ne_4q5_3q0, ne_4q5_3q0.symm, ne_4q5_4q0, ne_4q5_4q0.symm, ne_4q5_4q1, ne_4q5_4q1.symm, ne_4q5_4q2, ne_4q5_4q2.symm, ne_4q5_4q3, ne_4q5_4q3.symm, ne_4q5_4q4, ne_4q5_4q4.symm, ne_14q7_1q5, ne_14q7_1q5.symm, ne_14q7_2q0, ne_14q7_2q0.symm, ne_14q7_3q0, ne_14q7_3q0.symm, ne_14q7_4q0, ne_14q7_4q0.symm, ne_14q7_4q1, ne_14q7_4q1.symm, ne_14q7_4q2, ne_14q7_4q2.symm, ne_14q7_4q3, ne_14q7_4q3.symm, ne_14q7_4q4, ne_14q7_4q4.symm, ne_14q7_4q5, ne_14q7_4q5.symm, rd_any, AVal.cells, setAt, List.set_cons_zero, List.set_cons_succ, cellsAt, List.getD_cons_zero, List.getD_cons_succ, Nat.zero_add, Nat.reduceAdd, lv_bool, lv_int, lv_str, lv_nilPtr, lv_ptr, lv_nilSlice, lv_slice, lv_nilFunc, lv_func, lv_nilIface, lv_iface, lv_nilMap, lv_agg, lv_tuple, allLive, Bool.and_true, decA]
    repeat (with_reducible refine And.intro ?_ ?_; · first | trivial | omega | (intro hg; simp only [Bool.and_eq_true, Bool.or_eq_true, Bool.not_eq_true', Bool.and_eq_false_iff, Bool.or_eq_false_iff, Bool.not_eq_false', decide_eq_true_eq, decide_eq_false_iff_not, eqNil] at hg; omega) )
    apply hK; clear hK K
    -- region 17  law.go:35
    refine awp_rseq [10, 11, 13, 15] (by rfl) fun K hK => ?_
    refine aOps_callV (V := decA exM) (by rfl) (by rfl) ((c_of13 w₀ ht _ (-125) 1 (by omega) (by omega) (by omega) (by omega)).val rfl) ?_
    refine aOps_callV (V := .tuple [decA (canon true 25 1), .int .i64 0]) (by rfl) (by rfl) ((c_Low w₀ _ exM 2 1 exM_len (by omega) (by omega)).val (by rw [ex_low])) ?_
    simp (decide := true) only [aOps_nil, vOps_nil, fOps_nil, kOps_nil, ev, absV, absS, putD, Slots.put, Slots.get, Slots.keep, if_true, if_false, List.contains_cons, List.contains_nil, true_and, and_true, ↓ap_move, pop_move, ↓ap_extract, pop_extract, pExt_tuple, List.length_cons, List.length_nil, List.getD_cons_zero, List.getD_cons_succ, rd_ne', ne_eq, not_false_eq_true, ne_2q0_1q5, ne_2q0_1q5.symm, ne_3q0_1q5, ne_3q0_1q5.symm, ne_3q0_2q0, ne_3q0_2q0.symm, ne_4q0_1q5, ne_4q0_1q5.symm, ne_4q0_2q0, ne_4q0_2q0.symm, ne_4q0_3q0, ne_4q0_3q0.symm, ne_4q1_1q5, ne_4q1_1q5.symm, ne_4q1_2q0, ne_4q1_2q0.symm, ne_4q1_3q0, ne_4q1_3q0.symm, ne_4q1_4q0, ne_4q1_4q0.symm, ne_4q2_1q5, ne_4q2_1q5.symm, ne_4q2_2q0, ne_4q2_2q0.symm, ne_4q2_3q0, ne_4q2_3q0.symm, ne_4q2_4q0, ne_4q2_4q0.symm, ne_4q2_4q1, ne_4q2_4q1.symm, ne_4q3_1q5, ne_4q3_1q5.symm, ne_4q3_2q0, ne_4q3_2q0.symm, ne_4q3_3q0, ne_4q3_3q0.symm, ne_4q3_4q0, ne_4q3_4q0.symm, ne_4q3_4q1, ne_4q3_4q1.symm, ne_4q3_4q2, ne_4q3_4q2.symm, ne_4q4_1q5, ne_4q4_1q5.symm, ne_4q4_2q0, ne_4q4_2q0.symm, ne_4q4_3q0, ne_4q4_3q0.symm, ne_4q4_4q0, ne_4q4_4q0.symm, ne_4q4_4q1, ne_4q4_4q1.symm, ne_4q4_4q2, ne_4q4_4q2.symm, ne_4q4_4q3, ne_4q4_4q3.symm, ne_4q5_1q5, ne_4q5_1q5.symm, ne_4q5_2q0, ne_4q5_2q0.symm, ne_4q5_3q0, ne_4q5_3q0.symm, ne_4q5_4q0, ne_4q5_4q0.symm, ne_4q5_4q1, ne_4q5_4q1.symm, ne_4q5_4q2, ne_4q5_4q2.symm, ne_4q5_4q3, ne_4q5_4q3.symm, ne_4q5_4q4, ne_4q5_4q4.symm, ne_14q7_1q5, ne_14q7_1q5.symm, ne_14q7_2q0, ne_14q7_2q0.symm, ne_14q7_3q0, ne_14q7_3q0.symm, ne_14q7_4q0, ne_14q7_4q0.symm, ne_14q7_4q1, ne_14q7_4q1.symm, ne_14q7_4q2, ne_14q7_4q2.symm, ne_14q7_4q3, ne_14q7_4q3.symm, ne_14q7_4q4, ne_14q7_4q4.symm, ne_14q7_4q5, ne_14q7_4q5.symm, rd_any, AVal.cells, setAt, List.set_cons_zero, List.set_cons_succ, cellsAt, List.getD_cons_zero, List.getD_cons_succ, Nat.zero_add, Nat.reduceAdd, lv_bool, lv_int, lv_str, lv_nilPtr, lv_ptr, lv_nilSlice, lv_slice, lv_nilFunc, lv_func, lv_nilIface, lv_iface, lv_nilMap, lv_agg, lv_tuple, allLive, Bool.and_true, decA]
    repeat (with_reducible refine And.intro ?_ ?_; · first | trivial | omega | (intro hg; simp only [Bool.and_eq_true, Bool.or_eq_true, Bool.not_eq_true', Bool.and_eq_false_iff, Bool.or_eq_false_iff, Bool.not_eq_false', decide_eq_true_eq, decide_eq_false_iff_not, eqNil] at hg; omega) )
    refine aOps_alloc ze32 (cs := [.bool false, .str [], .int .i64 0]) (by rfl) fun k17q5 hk17q5 => ?_
    have ne_17q5_1q5 : k17q5 ≠ k1q5 := by simp only [AHeap.set_none] at hk17q5; simp only [hk17q5, ne_eq, not_false_eq_true]
    have ne_17q5_2q0 : k17q5 ≠ k2q0 := by simp only [AHeap.set_none] at hk17q5; simp only [hk17q5, ne_eq, not_false_eq_true]
    have ne_17q5_3q0 : k17q5 ≠ k3q0 := by simp only [AHeap.set_none] at hk17q5; simp only [hk17q5, ne_eq, not_false_eq_true]
    have ne_17q5_4q0 : k17q5 ≠ k4q0 := by simp only [AHeap.set_none] at hk17q5; simp only [hk17q5, ne_eq, not_false_eq_true]
    have ne_17q5_4q1 : k17q5 ≠ k4q1 := by simp only [AHeap.set_none] at hk17q5; simp only [hk17q5, ne_eq, not_false_eq_true]
    have ne_17q5_4q2 : k17q5 ≠ k4q2 := by simp only [AHeap.set_none] at hk17q5; simp only [hk17q5, ne_eq, not_false_eq_true]
    have ne_17q5_4q3 : k17q5 ≠ k4q3 := by simp only [AHeap.set_none] at hk17q5; simp only [hk17q5, ne_eq, not_false_eq_true]
    have ne_17q5_4q4 : k17q5 ≠ k4q4 := by simp only [AHeap.set_none] at hk17q5; simp only [hk17q5, ne_eq, not_false_eq_true]
    have ne_17q5_4q5 : k17q5 ≠ k4q5 := by simp only [AHeap.set_none] at hk17q5; simp only [hk17q5, ne_eq, not_false_eq_true]
    have ne_17q5_14q7 : k17q5 ≠ k14q7 := by simp only [AHeap.set_none] at hk17q5; simp only [hk17q5, ne_eq, not_false_eq_true]
    try have hf_17q5 : h k17q5 = none := by first | assumption | (simp only [AHeap.set_none] at hk17q5; simp only [hk17q5])
    refine aOps_store (by rfl) (by rfl) (by repeat (first | exact AHeap.set_same _ _ _ | assumption | refine (AHeap.set_ne _ _ (by first | assumption | exact Ne.symm (by assumption))).trans ?_)) sz32 (by rfl) (by rfl) (by first | exact Nat.le_refl _ | decide | (simp; done) | (simp; omega)) (Nat.zero_le _) (by rfl) ?_
    simp only [AHeap.set_set, setAt, AVal.cells, List.set_cons_zero, List.set_cons_succ, Nat.zero_add, Nat.reduceAdd]
    simp (decide := true) only [aOps_nil, vOps_nil, fOps_nil, kOps_nil, ev, absV, absS, putD, Slots.put, Slots.get, Slots.keep, if_true, if_false, List.contains_cons, List.contains_nil, true_and, and_true, ↓ap_assign, pop_assign, rd_ne', ne_eq, not_false_eq_true, ne_2q0_1q5, ne_2q0_1q5.symm, ne_3q0_1q5, ne_3q0_1q5.symm, ne_3q0_2q0, ne_3q0_2q0.symm, ne_4q0_1q5, ne_4q0_1q5.symm, ne_4q0_2q0, ne_4q0_2q0.symm, ne_4q0_3q0, ne_4q0_3q0.symm, ne_4q1_1q5, ne_4q1_1q5.symm, ne_4q1_2q0, ne_4q1_2q0.symm, ne_4q1_3q0, ne_4q1_3q0.symm, ne_4q1_4q0, ne_4q1_4q0.symm, ne_4q2_1q5, ne_4q2_1q5.symm, ne_4q2_2q0, ne_4q2_2q0.symm, ne_4q2_3q0, ne_4q2_3q0.symm, ne_4q2_4q0, ne_4q2_4q0.symm, ne_4q2_4q1, ne_4q2_4q1.symm, ne_4q3_1q5, ne_4q3_1q5.symm, ne_4q3_2q0, ne_4q3_2q0.symm, ne_4q3_3q0, ne_4q3_3q0.symm, ne_4q3_4q0, ne_4q3_4q0.symm, ne_4q3_4q1, ne_4q3_4q1.symm, ne_4q3_4q2, ne_4q3_4q2.symm, ne_4q4_1q5, ne_4q4_1q5.symm, ne_4q4_2q0, ne_4q4_2q0.symm, ne_4q4_3q0, ne_4q4_3q0.symm, ne_4q4_4q0, ne_4q4_4q0.symm, ne_4q4_4q1, ne_4q4_4q1.symm, ne_4q4_4q2, ne_4q4_4q2.symm, ne_4q4_4q3, ne_4q4_4q3.symm, ne_4q5_1q5, ne_4q5_1q5.symm, ne_4q5_2q0, ne_4q5_2q0.symm, ne_4q5_3q0, ne_4q5_3q0.symm, ne_4q5_4q0, ne_4q5_4q0.symm, ne_4q5_4q1, ne_4q5_4q1.symm, ne_4q5_4q2, ne_4q5_4q2.symm, ne_4q5_4q3, ne_4q5_4q3.symm, ne_4q5_4q4, ne_4q5_4q4.symm, ne_14q7_1q5, ne_14q7_1q5.symm, ne_14q7_2q0, ne_14q7_2q0.symm, ne_14q7_3q0, ne_14q7_3q0.symm, ne_14q7_4q0, ne_14q7_4q0.symm, ne_14q7_4q1, ne_14q7_4q1.symm, ne_14q7_4q2, ne_14q7_4q2.symm, ne_14q7_4q3, ne_14q7_4q3.symm, ne_14q7_4q4, ne_14q7_4q4.symm, ne_14q7_4q5, ne_14q7_4q5.symm, ne_17q5_1q5, ne_17q5_1q5.symm, ne_17q5_2q0, ne_17q5_2q0.symm, ne_17q5_3q0, ne_17q5_3q0.symm, ne_17q5_4q0, ne_17q5_4q0.symm, ne_17q5_4q1, ne_17q5_4q1.symm, ne_17q5_4q2, ne_17q5_4q2.symm, ne_17q5_4q3, ne_17q5_4q3.symm, ne_17q5_4q4, ne_17q5_4q4.symm, ne_17q5_4q5, ne_17q5_4q5.symm, ne_17q5_14q7, ne_17q5_14q7.symm, rd_any, AVal.cells, setAt, List.set_cons_zero, List.set_cons_succ, cellsAt, List.getD_cons_zero, List.getD_cons_succ, Nat.zero_add, Nat.reduceAdd, lv_bool, lv_int, lv_str, lv_nilPtr, lv_ptr, lv_nilSlice, lv_slice, lv_nilFunc, lv_func, lv_nilIface, lv_iface, lv_nilMap, lv_agg, lv_tuple, allLive, Bool.and_true, decA]
    repeat (with_reducible refine And.intro ?_ ?_; · first | trivial | omega | (intro hg; simp only [Bool.and_eq_true, Bool.or_eq_true, Bool.not_eq_true', Bool.and_eq_false_iff, Bool.or_eq_false_iff, Bool.not_eq_false', decide_eq_true_eq, decide_eq_false_iff_not, eqNil] at hg; omega) )
    apply hK; clear hK K
    -- region 18  law.go:36
    refine awp_rseq [10, 11, 13, 15, 17] (by rfl) fun K hK => ?_
    refine aOps_callV (V := decA exM) (by rfl) (by rfl) ((c_of13 w₀ ht _ (-125) 1 (by omega) (by omega) (by omega) (by omega)).val rfl) ?_
    refine aOps_callV (V := .tuple [.str [48, 49, 50, 53], .int .i64 0]) (by rfl) (by rfl) ((c_Digits w₀ _ exM 4 1 exM_len (by omega) (by omega)).val (by rw [ex_dig1])) ?_
    simp (decide := true) only [aOps_nil, vOps_nil, fOps_nil, kOps_nil, ev, absV, absS, putD, Slots.put, Slots.get, Slots.keep, if_true, if_false, List.contains_cons, List.contains_nil, true_and, and_true, ↓ap_move, pop_move, ↓ap_extract, pop_extract, pExt_tuple, List.length_cons, List.length_nil, List.getD_cons_zero, List.getD_cons_succ, ↓ap_assign, pop_assign, rd_ne', ne_eq, not_false_eq_true, ne_2q0_1q5, ne_2q0_1q5.symm, ne_3q0_1q5, ne_3q0_1q5.symm, ne_3q0_2q0, ne_3q0_2q0.symm, ne_4q0_1q5, ne_4q0_1q5.symm, ne_4q0_2q0, ne_4q0_2q0.symm, ne_4q0_3q0, ne_4q0_3q0.symm, ne_4q1_1q5, ne_4q1_1q5.symm, ne_4q1_2q0, ne_4q1_2q0.symm, ne_4q1_3q0, ne_4q1_3q0.symm, ne_4q1_4q0, ne_4q1_4q0.symm, ne_4q2_1q5, ne_4q2_1q5.symm, ne_4q2_2q0, ne_4q2_2q0.symm, ne_4q2_3q0, ne_4q2_3q0.symm, ne_4q2_4q0, ne_4q2_4q0.symm, ne_4q2_4q1, ne_4q2_4q1.symm, ne_4q3_1q5, ne_4q3_1q5.symm, ne_4q3_2q0, ne_4q3_2q0.symm, ne_4q3_3q0, ne_4q3_3q0.symm, ne_4q3_4q0, ne_4q3_4q0.symm, ne_4q3_4q1, ne_4q3_4q1.symm, ne_4q3_4q2, ne_4q3_4q2.symm, ne_4q4_1q5, ne_4q4_1q5.symm, ne_4q4_2q0, ne_4q4_2q0.symm, ne_4q4_3q0, ne_4q4_3q0.symm, ne_4q4_4q0, ne_4q4_4q0.symm, ne_4q4_4q1, ne_4q4_4q1.symm, ne_4q4_4q2, ne_4q4_4q2.symm, ne_4q4_4q3, ne_4q4_4q3.symm, ne_4q5_1q5, ne_4q5_1q5.symm, ne_4q5_2q0, ne_4q5_2q0.symm, ne_4q5_3q0, ne_4q5_3q0.symm, ne_4q5_4q0, ne_4q5_4q0.symm, ne_4q5_4q1, ne_4q5_4q1.symm, ne_4q5_4q2, ne_4q5_4q2.symm, ne_4q5_4q3, ne_4q5_4q3.symm, ne_4q5_4q4, ne_4q5_4q4.symm, ne_14q7_1q5, ne_14q7_1q5.symm, ne_14q7_2q0, ne_14q7_2q0.symm, ne_14q7_3q0, ne_14q7_3q0.symm, ne_14q7_4q0, ne_14q7_4q0.symm, ne_14q7_4q1, ne_14q7_4q1.symm, ne_14q7_4q2, ne_14q7_4q2.symm, ne_14q7_4q3, ne_14q7_4q3.symm, ne_14q7_4q4, ne_14q7_4q4.symm, ne_14q7_4q5, ne_14q7_4q5.symm, ne_17q5_1q5, ne_17q5_1q5.symm, ne_17q5_2q0, ne_17q5_2q0.symm, ne_17q5_3q0, ne_17q5_3q0.symm, ne_17q5_4q0, ne_17q5_4q0.symm, ne_17q5_4q1, ne_17q5_4q1.symm, ne_17q5_4q2, ne_17q5_4q2.symm, ne_17q5_4q3, ne_17q5_4q3.symm, ne_17q5_4q4, ne_17q5_4q4.symm, ne_17q5_4q5, ne_17q5_4q5.symm, ne_17q5_14q7, ne_17q5_14q7.symm, rd_any, AVal.cells, setAt, List.set_cons_zero, List.set_cons_succ, cellsAt, List.getD_cons_zero, List.getD_cons_succ, Nat.zero_add, Nat.reduceAdd, lv_bool, lv_int, lv_str, lv_nilPtr, lv_ptr, lv_nilSlice, lv_slice, lv_nilFunc, lv_func, lv_nilIface, lv_iface, lv_nilMap, lv_agg, lv_tuple, allLive, Bool.and_true, decA]
    repeat (with_reducible refine And.intro ?_ ?_; · first | trivial | omega | (intro hg; simp only [Bool.and_eq_true, Bool.or_eq_true, Bool.not_eq_true', Bool.and_eq_false_iff, Bool.or_eq_false_iff, Bool.not_eq_false', decide_eq_true_eq, decide_eq_false_iff_not, eqNil] at hg; omega) )
    apply hK; clear hK K
    -- region 19  law.go:37
    refine awp_rseq [10, 11, 13, 15, 17, 19] (by rfl) fun K hK => ?_
    refine aOps_callV (V := decA (canon false 1200 0)) (by rfl) (by rfl) ((c_of13 w₀ ht _ 1200 0 (by omega) (by omega) (by omega) (by omega)).val rfl) ?_
    refine aOps_callV (V := .tuple [.str [48, 49, 50], .int .i64 0]) (by rfl) (by rfl) ((c_Digits w₀ _ (canon false 1200 0) 3 (-2) (canon_len _ _ _ (by decide +kernel)) (by omega) (by omega)).val (by rw [ex_dig2])) ?_
    simp (decide := true) only [aOps_nil, vOps_nil, fOps_nil, kOps_nil, ev, absV, absS, putD, Slots.put, Slots.get, Slots.keep, if_true, if_false, List.contains_cons, List.contains_nil, true_and, and_true, ↓ap_move, pop_move, ↓ap_extract, pop_extract, pExt_tuple, List.length_cons, List.length_nil, List.getD_cons_zero, List.getD_cons_succ, ↓ap_assign, pop_assign, rd_ne', ne_eq, not_false_eq_true, ne_2q0_1q5, ne_2q0_1q5.symm, ne_3q0_1q5, ne_3q0_1q5.symm, ne_3q0_2q0, ne_3q0_2q0.symm, ne_4q0_1q5, ne_4q0_1q5.symm, ne_4q0_2q0, ne_4q0_2q0.symm, ne_4q0_3q0, ne_4q0_3q0.symm, ne_4q1_1q5, ne_4q1_1q5.symm, ne_4q1_2q0, ne_4q1_2q0.symm, ne_4q1_3q0, ne_4q1_3q0.symm, ne_4q1_4q0, ne_4q1_4q0.symm, ne_4q2_1q5, ne_4q2_1q5.symm, ne_4q2_2q0, ne_4q2_2q0.symm, ne_4q2_3q0, ne_4q2_3q0.symm, ne_4q2_4q0, ne_4q2_4q0.symm, ne_4q2_4q1, ne_4q2_4q1.symm, ne_4q3_1q5, ne_4q3_1q5.symm, ne_4q3_2q0, ne_4q3_2q0.symm, ne_4q3_3q0, ne_4q3_3q0.symm, ne_4q3_4q0, ne_4q3_4q0.symm, ne_4q3_4q1, ne_4q3_4q1.symm, ne_4q3_4q2, ne_4q3_4q2.symm, ne_4q4_1q5, ne_4q4_1q5.symm, ne_4q4_2q0, ne_4q4_2q0.symm, ne_4q4_3q0, ne_4q4_3q0.symm, ne_4q4_4q0, ne_4q4_4q0.symm, ne_4q4_4q1, ne_4q4_4q1.symm, ne_4q4_4q2, ne_4q4_4q2.symm, ne_4q4_4q3, ne_4q4_4q3.symm, ne_4q5_1q5, ne_4q5_1q5.symm, ne_4q5_2q0, ne_4q5_2q0.symm, ne_4q5_3q0, ne_4q5_3q0.symm, ne_4q5_4q0, ne_4q5_4q0.symm, ne_4q5_4q1, ne_4q5_4q1.symm, ne_4q5_4q2, ne_4q5_4q2.symm, ne_4q5_4q3, ne_4q5_4q3.symm, ne_4q5_4q4, ne_4q5_4q4.symm, ne_14q7_1q5, ne_14q7_1q5.symm, ne_14q7_2q0, ne_14q7_2q0.symm, ne_14q7_3q0, ne_14q7_3q0.symm, ne_14q7_4q0, ne_14q7_4q0.symm, ne_14q7_4q1, ne_14q7_4q1.symm, ne_14q7_4q2, ne_14q7_4q2.symm, ne_14q7_4q3, ne_14q7_4q3.symm, ne_14q7_4q4, ne_14q7_4q4.symm, ne_14q7_4q5, ne_14q7_4q5.symm, ne_17q5_1q5, ne_17q5_1q5.symm, ne_17q5_2q0, ne_17q5_2q0.symm, ne_17q5_3q0, ne_17q5_3q0.symm, ne_17q5_4q0, ne_17q5_4q0.symm, ne_17q5_4q1, ne_17q5_4q1.symm, ne_17q5_4q2, ne_17q5_4q2.symm, ne_17q5_4q3, ne_17q5_4q3.symm, ne_17q5_4q4, ne_17q5_4q4.symm, ne_17q5_4q5, ne_17q5_4q5.symm, ne_17q5_14q7, ne_17q5_14q7.symm, rd_any, AVal.cells, setAt, List.set_cons_zero, List.set_cons_succ, cellsAt, List.getD_cons_zero, List.getD_cons_succ, Nat.zero_add, Nat.reduceAdd, lv_bool, lv_int, lv_str, lv_nilPtr, lv_ptr, lv_nilSlice, lv_slice, lv_nilFunc, lv_func, lv_nilIface, lv_iface, lv_nilMap, lv_agg, lv_tuple, allLive, Bool.and_true, decA]
    repeat (with_reducible refine And.intro ?_ ?_; · first | trivial | omega | (intro hg; simp only [Bool.and_eq_true, Bool.or_eq_true, Bool.not_eq_true', Bool.and_eq_false_iff, Bool.or_eq_false_iff, Bool.not_eq_false', decide_eq_true_eq, decide_eq_false_iff_not, eqNil] at hg; omega) )
    apply hK; clear hK K
    -- region 20  law.go:38
    refine awp_rseq [10, 11, 13, 15, 17, 19, 21] (by rfl) fun K hK => ?_
    refine aOps_callV (V := decA (canon false 5 3)) (by rfl) (by rfl) ((c_of13 w₀ ht _ 5 3 (by omega) (by omega) (by omega) (by omega)).val rfl) ?_
    refine aOps_callV (V := .tuple [.str [53], .int .i64 0]) (by rfl) (by rfl) ((c_Digits w₀ _ (canon false 5 3) 1 3 (canon_len _ _ _ (by decide +kernel)) (by omega) (by omega)).val (by rw [ex_dig3])) ?_
    simp (decide := true) only [aOps_nil, vOps_nil, fOps_nil, kOps_nil, ev, absV, absS, putD, Slots.put, Slots.get, Slots.keep, if_true, if_false, List.contains_cons, List.contains_nil, true_and, and_true, ↓ap_move, pop_move, ↓ap_extract, pop_extract, pExt_tuple, List.length_cons, List.length_nil, List.getD_cons_zero, List.getD_cons_succ, ↓ap_assign, pop_assign, rd_ne', ne_eq, not_false_eq_true, ne_2q0_1q5, ne_2q0_1q5.symm, ne_3q0_1q5, ne_3q0_1q5.symm, ne_3q0_2q0, ne_3q0_2q0.symm, ne_4q0_1q5, ne_4q0_1q5.symm, ne_4q0_2q0, ne_4q0_2q0.symm, ne_4q0_3q0, ne_4q0_3q0.symm, ne_4q1_1q5, ne_4q1_1q5.symm, ne_4q1_2q0, ne_4q1_2q0.symm, ne_4q1_3q0, ne_4q1_3q0.symm, ne_4q1_4q0, ne_4q1_4q0.symm, ne_4q2_1q5, ne_4q2_1q5.symm, ne_4q2_2q0, ne_4q2_2q0.symm, ne_4q2_3q0, ne_4q2_3q0.symm, ne_4q2_4q0, ne_4q2_4q0.symm, ne_4q2_4q1, ne_4q2_4q1.symm, ne_4q3_1q5, ne_4q3_1q5.symm, ne_4q3_2q0, ne_4q3_2q0.symm, ne_4q3_3q0, ne_4q3_3q0.symm, ne_4q3_4q0, ne_4q3_4q0.symm, ne_4q3_4q1, ne_4q3_4q1.symm, ne_4q3_4q2, ne_4q3_4q2.symm, ne_4q4_1q5, ne_4q4_1q5.symm, ne_4q4_2q0, ne_4q4_2q0.symm, ne_4q4_3q0, ne_4q4_3q0.symm, ne_4q4_4q0, ne_4q4_4q0.symm, ne_4q4_4q1, ne_4q4_4q1.symm, ne_4q4_4q2, ne_4q4_4q2.symm, ne_4q4_4q3, ne_4q4_4q3.symm, ne_4q5_1q5, ne_4q5_1q5.symm, ne_4q5_2q0, ne_4q5_2q0.symm, ne_4q5_3q0, ne_4q5_3q0.symm, ne_4q5_4q0, ne_4q5_4q0.symm, ne_4q5_4q1, ne_4q5_4q1.symm, ne_4q5_4q2, ne_4q5_4q2.symm, ne_4q5_4q3, ne_4q5_4q3.symm, ne_4q5_4q4, ne_4q5_4q4.symm, ne_14q7_1q5, ne_14q7_1q5.symm, ne_14q7_2q0, ne_14q7_2q0.symm, ne_14q7_3q0, ne_14q7_3q0.symm, ne_14q7_4q0, ne_14q7_4q0.symm, ne_14q7_4q1, ne_14q7_4q1.symm, ne_14q7_4q2, ne_14q7_4q2.symm, ne_14q7_4q3, ne_14q7_4q3.symm, ne_14q7_4q4, ne_14q7_4q4.symm, ne_14q7_4q5, ne_14q7_4q5.symm, ne_17q5_1q5, ne_17q5_1q5.symm, ne_17q5_2q0, ne_17q5_2q0.symm, ne_17q5_3q0, ne_17q5_3q0.symm, ne_17q5_4q0, ne_17q5_4q0.symm, ne_17q5_4q1, ne_17q5_4q1.symm, ne_17q5_4q2, ne_17q5_4q2.symm, ne_17q5_4q3, ne_17q5_4q3.symm, ne_17q5_4q4, ne_17q5_4q4.symm, ne_17q5_4q5, ne_17q5_4q5.symm, ne_17q5_14q7, ne_17q5_14q7.symm, rd_any, AVal.cells, setAt, List.set_cons_zero, List.set_cons_succ, cellsAt, List.getD_cons_zero, List.getD_cons_succ, Nat.zero_add, Nat.reduceAdd, lv_bool, lv_int, lv_str, lv_nilPtr, lv_ptr, lv_nilSlice, lv_slice, lv_nilFunc, lv_func, lv_nilIface, lv_iface, lv_nilMap, lv_agg, lv_tuple, allLive, Bool.and_true, decA]
    repeat (with_reducible refine And.intro ?_ ?_; · first | trivial | omega | (intro hg; simp only [Bool.and_eq_true, Bool.or_eq_true, Bool.not_eq_true', Bool.and_eq_false_iff, Bool.or_eq_false_iff, Bool.not_eq_false', decide_eq_true_eq, decide_eq_false_iff_not, eqNil] at hg; omega) )
    apply hK; clear hK K
    -- region 21  law.go:39
    refine awp_dseq_any [0] mixed (by kernel_rfl) (by rfl) fun K hK => ?_
    simp (decide := true) only [aOps_nil, vOps_nil, fOps_nil, kOps_nil, ev, absV, absS, putD, Slots.put, Slots.get, Slots.keep, if_true, if_false, List.contains_cons, List.contains_nil, true_and, and_true, ↓vp_move, pop_move, ↓vp_binOp, pop_binOp, isNilC_int, cond_false, pBinX_int, pI_eql, ↓vg_move, vgP, vgQ_some, gv, nthDst, gKnown_bool, gKnown_cond, guardB_cond, guardB_bool_true, guardB_bool_false, cv_cv, implies_true, Bool.not_not, decide_true, decide_false, Bool.not_false, Bool.not_true, condV_true, condV_false, forall_const, false_implies, pickV_true, pickV_false, Bool.and_true, Bool.and_false, Bool.true_and, Bool.false_and, Bool.or_true, Bool.or_false, Bool.true_or, Bool.false_or, ↓vp_pick, pop_pick, pPick_bool, pickV_cond_l, pickV_cond_r, pickV_cond_rn, cp_nest1, cp_nest2, cp_nest3, cp_nest4, pickV_and, pickV_or, ↓vg_unOp, pop_unOp, pU_not, cv_un, cp_un, ↓vg_load, pop_load, pop_indexAddr, agL_ld1, agL_ld2, agL_ld3, agL_ld4, agL_ld5, agL_ld6, pLoad_agg ag32 sz32, cv_load, cp_load, rd_ne', ne_eq, not_false_eq_true, ne_2q0_1q5, ne_2q0_1q5.symm, ne_3q0_1q5, ne_3q0_1q5.symm, ne_3q0_2q0, ne_3q0_2q0.symm, ne_4q0_1q5, ne_4q0_1q5.symm, ne_4q0_2q0, ne_4q0_2q0.symm, ne_4q0_3q0, ne_4q0_3q0.symm, ne_4q1_1q5, ne_4q1_1q5.symm, ne_4q1_2q0, ne_4q1_2q0.symm, ne_4q1_3q0, ne_4q1_3q0.symm, ne_4q1_4q0, ne_4q1_4q0.symm, ne_4q2_1q5, ne_4q2_1q5.symm, ne_4q2_2q0, ne_4q2_2q0.symm, ne_4q2_3q0, ne_4q2_3q0.symm, ne_4q2_4q0, ne_4q2_4q0.symm, ne_4q2_4q1, ne_4q2_4q1.symm, ne_4q3_1q5, ne_4q3_1q5.symm, ne_4q3_2q0, ne_4q3_2q0.symm, ne_4q3_3q0, ne_4q3_3q0.symm, ne_4q3_4q0, ne_4q3_4q0.symm, ne_4q3_4q1, ne_4q3_4q1.symm, ne_4q3_4q2, ne_4q3_4q2.symm, ne_4q4_1q5, ne_4q4_1q5.symm, ne_4q4_2q0, ne_4q4_2q0.symm, ne_4q4_3q0, ne_4q4_3q0.symm, ne_4q4_4q0, ne_4q4_4q0.symm, ne_4q4_4q1, ne_4q4_4q1.symm, ne_4q4_4q2, ne_4q4_4q2.symm, ne_4q4_4q3, ne_4q4_4q3.symm, ne_4q5_1q5, ne_4q5_1q5.symm, ne_4q5_2q0, ne_4q5_2q0.symm, ne_4q5_3q0, ne_4q5_3q0.symm, ne_4q5_4q0, ne_4q5_4q0.symm, ne_4q5_4q1, ne_4q5_4q1.symm, ne_4q5_4q2, ne_4q5_4q2.symm, ne_4q5_4q3, ne_4q5_4q3.symm, ne_4q5_4q4, ne_4q5_4q4.symm, ne_14q7_1q5, ne_14q7_1q5.symm, ne_14q7_2q0, ne_14q7_2q0.symm, ne_14q7_3q0, ne_14q7_3q0.symm, ne_14q7_4q0, ne_14q7_4q0.symm, ne_14q7_4q1, ne_14q7_4q1.symm, ne_14q7_4q2, ne_14q7_4q2.symm, ne_14q7_4q3, ne_14q7_4q3.symm, ne_14q7_4q4, ne_14q7_4q4.symm, ne_14q7_4q5, ne_14q7_4q5.symm, ne_17q5_1q5, ne_17q5_1q5.symm, ne_17q5_2q0, ne_17q5_2q0.symm, ne_17q5_3q0, ne_17q5_3q0.symm, ne_17q5_4q0, ne_17q5_4q0.symm, ne_17q5_4q1, ne_17q5_4q1.symm, ne_17q5_4q2, ne_17q5_4q2.symm, ne_17q5_4q3, ne_17q5_4q3.symm, ne_17q5_4q4, ne_17q5_4q4.symm, ne_17q5_4q5, ne_17q5_4q5.symm, ne_17q5_14q7, ne_17q5_14q7.symm, rd_any, AVal.cells, setAt, List.set_cons_zero, List.set_cons_succ, cellsAt, List.getD_cons_zero, List.getD_cons_succ, Nat.zero_add, Nat.reduceAdd, lv_bool, lv_int, lv_str, lv_nilPtr, lv_ptr, lv_nilSlice, lv_slice, lv_nilFunc, lv_func, lv_nilIface, lv_iface, lv_nilMap, lv_agg, lv_tuple, allLive, Bool.and_true, decA, beq_self_eq_true, Bool.true_and, Bool.and_true, decide_true]
    try simp (disch := omega) only [wrap_i64, wrap_u8]
    repeat (with_reducible refine And.intro ?_ ?_; · first | trivial | omega | (intro hg; simp only [Bool.and_eq_true, Bool.or_eq_true, Bool.not_eq_true', Bool.and_eq_false_iff, Bool.or_eq_false_iff, Bool.not_eq_false', decide_eq_true_eq, decide_eq_false_iff_not, eqNil] at hg; omega) )
    refine vOps_gcall (V := decA (canon true 25 1)) (f := _) (cap := _) (xs := _) (by first | rfl | (simp (decide := true) only [gv, nthDst, Slots.get, if_true, if_false, gKnown_cond, gKnown_bool])) (fun hg => ⟨rfl, ?_⟩) (fun hg => (c_of13 w₀ ht _ (-25) 1 (by omega) (by omega) (by omega) (by omega)).val rfl) ?_
    · try simp (decide := true) only [gv, nthDst, putD, Slots.put, Slots.get, if_true, if_false, guardB_bool_true, guardB_bool_false, guardB_cond, Bool.not_not] at hg
      simp (decide := true) only [evs, ev, putD, Slots.put, Slots.get, if_true, if_false, hg, condV_true, List.append_nil, List.map_cons, List.map_nil, absV, absS]
    simp (decide := true) only [aOps_nil, vOps_nil, fOps_nil, kOps_nil, ev, absV, absS, putD, Slots.put, Slots.get, Slots.keep, if_true, if_false, List.contains_cons, List.contains_nil, true_and, and_true, gv, nthDst, guardB_bool_true, guardB_bool_false, guardB_cond, ↓vg_binOp, pop_binOp, vgP, vgQ_some, gKnown_bool, gKnown_cond, cv_cv, implies_true, Bool.not_not, decide_true, decide_false, Bool.not_false, Bool.not_true, condV_true, condV_false, forall_const, false_implies, pickV_true, pickV_false, Bool.and_true, Bool.and_false, Bool.true_and, Bool.false_and, Bool.or_true, Bool.or_false, Bool.true_or, Bool.false_or, isNilC_tmp, cond_false, cv_binl, cv_binr, cp_binl, cp_binr, pBinX_agg, eq32, ↓vp_pick, pop_pick, pPick_bool, pickV_cond_l, pickV_cond_r, pickV_cond_rn, cp_nest1, cp_nest2, cp_nest3, cp_nest4, pickV_and, pickV_or, ↓vp_move, pop_move, ↓vg_move, isNilC_str, pBinX_str, pS_eql, ↓vp_assign, pop_assign, rd_ne', ne_eq, not_false_eq_true, ne_2q0_1q5, ne_2q0_1q5.symm, ne_3q0_1q5, ne_3q0_1q5.symm, ne_3q0_2q0, ne_3q0_2q0.symm, ne_4q0_1q5, ne_4q0_1q5.symm, ne_4q0_2q0, ne_4q0_2q0.symm, ne_4q0_3q0, ne_4q0_3q0.symm, ne_4q1_1q5, ne_4q1_1q5.symm, ne_4q1_2q0, ne_4q1_2q0.symm, ne_4q1_3q0, ne_4q1_3q0.symm, ne_4q1_4q0, ne_4q1_4q0.symm, ne_4q2_1q5, ne_4q2_1q5.symm, ne_4q2_2q0, ne_4q2_2q0.symm, ne_4q2_3q0, ne_4q2_3q0.symm, ne_4q2_4q0, ne_4q2_4q0.symm, ne_4q2_4q1, ne_4q2_4q1.symm, ne_4q3_1q5, ne_4q3_1q5.symm, ne_4q3_2q0, ne_4q3_2q0.symm, ne_4q3_3q0, ne_4q3_3q0.symm, ne_4q3_4q0, ne_4q3_4q0.symm, ne_4q3_4q1, ne_4q3_4q1.symm, ne_4q3_4q2, ne_4q3_4q2.symm, ne_4q4_1q5, ne_4q4_1q5.symm, ne_4q4_2q0, ne_4q4_2q0.symm, ne_4q4_3q0, ne_4q4_3q0.symm, ne_4q4_4q0, ne_4q4_4q0.symm, ne_4q4_4q1, ne_4q4_4q1.symm, ne_4q4_4q2, ne_4q4_4q2.symm, ne_4q4_4q3, ne_4q4_4q3.symm, ne_4q5_1q5, ne_4q5_1q5.symm, ne_4q5_2q0, ne_4q5_2q0.symm, ne_4q5_3q0, ne_4q5_3q0.symm, ne_4q5_4q0, ne_4q5_4q0.symm, ne_4q5_4q1, ne_4q5_4q1.symm, ne_4q5_4q2, ne_4q5_4q2.symm, ne_4q5_4q3, ne_4q5_4q3.symm, ne_4q5_4q4, ne_4q5_4q4.symm, ne_14q7_1q5, ne_14q7_1q5.symm, ne_14q7_2q0, ne_14q7_2q0.symm, ne_14q7_3q0, ne_14q7_3q0.symm, ne_14q7_4q0, ne_14q7_4q0.symm, ne_14q7_4q1, ne_14q7_4q1.symm, ne_14q7_4q2, ne_14q7_4q2.symm, ne_14q7_4q3, ne_14q7_4q3.symm, ne_14q7_4q4, ne_14q7_4q4.symm, ne_14q7_4q5, ne_14q7_4q5.symm, ne_17q5_1q5, ne_17q5_1q5.symm, ne_17q5_2q0, ne_17q5_2q0.symm, ne_17q5_3q0, ne_17q5_3q0.symm, ne_17q5_4q0, ne_17q5_4q0.symm, ne_17q5_4q1, ne_17q5_4q1.symm, ne_17q5_4q2, ne_17q5_4q2.symm, ne_17q5_4q3, ne_17q5_4q3.symm, ne_17q5_4q4, ne_17q5_4q4.symm, ne_17q5_4q5, ne_17q5_4q5.symm, ne_17q5_14q7, ne_17q5_14q7.symm, rd_any, AVal.cells, setAt, List.set_cons_zero, List.set_cons_succ, cellsAt, List.getD_cons_zero, List.getD_cons_succ, Nat.zero_add, Nat.reduceAdd, lv_bool, lv_int, lv_str, lv_nilPtr, lv_ptr, lv_nilSlice, lv_slice, lv_nilFunc, lv_func, lv_nilIface, lv_iface, lv_nilMap, lv_agg, lv_tuple, allLive, Bool.and_true, decA, beq_self_eq_true, Bool.true_and, Bool.and_true, decide_true]
    repeat (with_reducible refine And.intro ?_ ?_; · first | trivial | omega | (intro hg; simp only [Bool.and_eq_true, Bool.or_eq_true, Bool.not_eq_true', Bool.and_eq_false_iff, Bool.or_eq_false_iff, Bool.not_eq_false', decide_eq_true_eq, decide_eq_false_iff_not, eqNil] at hg; omega) )
    apply hK; clear hK K
    refine awp_ret ?_
    try simp only [thenA_ret, inBlockA_ret]
    refine retA_ret h (by repeat (first | exact Sub.refl _ | assumption | refine Sub.trans_set ?_ (by assumption))) (resPre_tmp (resPre_nil)) ?_
    simp (decide := true) only [aOps_nil, vOps_nil, fOps_nil, kOps_nil, ev, absV, absS, putD, Slots.put, Slots.get, Slots.keep, if_true, if_false, List.contains_cons, List.contains_nil, true_and, and_true, resOf_one, rd_ne', ne_eq, not_false_eq_true, ne_2q0_1q5, ne_2q0_1q5.symm, ne_3q0_1q5, ne_3q0_1q5.symm, ne_3q0_2q0, ne_3q0_2q0.symm, ne_4q0_1q5, ne_4q0_1q5.symm, ne_4q0_2q0, ne_4q0_2q0.symm, ne_4q0_3q0, ne_4q0_3q0.symm, ne_4q1_1q5, ne_4q1_1q5.symm, ne_4q1_2q0, ne_4q1_2q0.symm, ne_4q1_3q0, ne_4q1_3q0.symm, ne_4q1_4q0, ne_4q1_4q0.symm, ne_4q2_1q5, ne_4q2_1q5.symm, ne_4q2_2q0, ne_4q2_2q0.symm, ne_4q2_3q0, ne_4q2_3q0.symm, ne_4q2_4q0, ne_4q2_4q0.symm, ne_4q2_4q1, ne_4q2_4q1.symm, ne_4q3_1q5, ne_4q3_1q5.symm, ne_4q3_2q0, ne_4q3_2q0.symm, ne_4q3_3q0, ne_4q3_3q0.symm, ne_4q3_4q0, ne_4q3_4q0.symm, ne_4q3_4q1, ne_4q3_4q1.symm, ne_4q3_4q2, ne_4q3_4q2.symm, ne_4q4_1q5, ne_4q4_1q5.symm, ne_4q4_2q0, ne_4q4_2q0.symm, ne_4q4_3q0, ne_4q4_3q0.symm, ne_4q4_4q0, ne_4q4_4q0.symm, ne_4q4_4q1, ne_4q4_4q1.symm, ne_4q4_4q2, ne_4q4_4q2.symm, ne_4q4_4q3, ne_4q4_4q3.symm, ne_4q5_1q5, ne_4q5_1q5.symm, ne_4q5_2q0, ne_4q5_2q0.symm, ne_4q5_3q0, ne_4q5_3q0.symm, ne_4q5_4q0, ne_4q5_4q0.symm, ne_4q5_4q1, ne_4q5_4q1.symm, ne_4q5_4q2, ne_4q5_4q2.symm, ne_4q5_4q3, ne_4q5_4q3.symm, ne_4q5_4q4, ne_4q5_4q4.symm, ne_14q7_1q5, ne_14q7_1q5.symm, ne_14q7_2q0, ne_14q7_2q0.symm, ne_14q7_3q0, ne_14q7_3q0.symm, ne_14q7_4q0, ne_14q7_4q0.symm, ne_14q7_4q1, ne_14q7_4q1.symm, ne_14q7_4q2, ne_14q7_4q2.symm, ne_14q7_4q3, ne_14q7_4q3.symm, ne_14q7_4q4, ne_14q7_4q4.symm, ne_14q7_4q5, ne_14q7_4q5.symm, ne_17q5_1q5, ne_17q5_1q5.symm, ne_17q5_2q0, ne_17q5_2q0.symm, ne_17q5_3q0, ne_17q5_3q0.symm, ne_17q5_4q0, ne_17q5_4q0.symm, ne_17q5_4q1, ne_17q5_4q1.symm, ne_17q5_4q2, ne_17q5_4q2.symm, ne_17q5_4q3, ne_17q5_4q3.symm, ne_17q5_4q4, ne_17q5_4q4.symm, ne_17q5_4q5, ne_17q5_4q5.symm, ne_17q5_14q7, ne_17q5_14q7.symm, rd_any, AVal.cells, setAt, List.set_cons_zero, List.set_cons_succ, cellsAt, List.getD_cons_zero, List.getD_cons_succ, Nat.zero_add, Nat.reduceAdd, lv_bool, lv_int, lv_str, lv_nilPtr, lv_ptr, lv_nilSlice, lv_slice, lv_nilFunc, lv_func, lv_nilIface, lv_iface, lv_nilMap, lv_agg, lv_tuple, allLive, Bool.and_true, decA]
    all_goals first | rfl | exact ⟨rfl, rfl⟩ | (simp (decide := true) only [if_true, if_false, *]; done) | (trace_state; fail)
end Go.Proofs.YteagjfcmhmmljaaDoor

/-
  The modes' words: Find and Name.
  Conditions: none.
-/
namespace Go.Proofs.YteagjfcmhmmljaaDoor
open Go.AM
open Go.Proofs
open Go.RowKit (Below)
set_option maxRecDepth 100000
def namesL : List (List UInt8) := [[84, 82, 85, 78, 67, 65, 84, 73, 79, 78], [78, 69, 65, 82, 69, 83, 84, 45, 65, 87, 65, 89, 45, 70, 82, 79, 77, 45, 90, 69, 82, 79], [78, 69, 65, 82, 69, 83, 84, 45, 69, 86, 69, 78], [78, 69, 65, 82, 69, 83, 84, 45, 84, 79, 87, 65, 82, 68, 45, 90, 69, 82, 79], [65, 87, 65, 89, 45, 70, 82, 79, 77, 45, 90, 69, 82, 79], [84, 79, 87, 65, 82, 68, 45, 71, 82, 69, 65, 84, 69, 82], [84, 79, 87, 65, 82, 68, 45, 76, 69, 83, 83, 69, 82], [80, 82, 79, 72, 73, 66, 73, 84, 69, 68]]
/-- The package's variable holds the words. -/
def NamesAt (w₀ : World) : Prop := ∀ i, i < 8 → w₀.cell? ⟨0, i, none⟩ = some (.string ⟨⟨namesL.getD i []⟩⟩)
theorem NamesAt.rd {w₀ : World} (hN : NamesAt w₀) (h : AHeap) {i : Nat} (hi : i < 8) : rd w₀ h (.base 0) i = .str (namesL.getD i []) := by
  have hc := hN i hi
  have hlt : 0 < w₀.heap.size := cell_lt hc
  simp only [AM.rd, hlt, if_true, hc]
  rfl
/-- The first place of a word. -/
def idxH (s : List UInt8) : List (List UInt8) → Nat → Int
  | [], _ => -1
  | z :: l, i => if z = s then (i : Int) else idxH s l (i + 1)
theorem idx_kit (s : List UInt8) : ∀ (l : List (List UInt8)) (i : Nat), Lib.idxFromS (l.map fun z => (⟨⟨z⟩⟩ : ByteArray)) ⟨⟨s⟩⟩ i = idxH s l i
  | [], _ => rfl
  | z :: l, i => by
    rw [List.map_cons, Lib.idxFromS, idxH, idx_kit s l (i + 1)]
    by_cases h : z = s
    · subst h; simp
    · have h2 : (⟨⟨z⟩⟩ : ByteArray) ≠ ⟨⟨s⟩⟩ := fun e => h (by simpa using e)
      simp [h, h2]
def lastG (s : List UInt8) : Nat → Int
  | 0 => -1
  | i + 1 => if namesL.getD i [] = s then (i : Int) else lastG s i
theorem last_idx (s : List UInt8) : lastG s 8 = idxH s namesL 0 := by
  by_cases h0 : namesL.getD 0 [] = s
  · subst h0; decide +kernel
  by_cases h1 : namesL.getD 1 [] = s
  · subst h1; decide +kernel
  by_cases h2 : namesL.getD 2 [] = s
  · subst h2; decide +kernel
  by_cases h3 : namesL.getD 3 [] = s
  · subst h3; decide +kernel
  by_cases h4 : namesL.getD 4 [] = s
  · subst h4; decide +kernel
  by_cases h5 : namesL.getD 5 [] = s
  · subst h5; decide +kernel
  by_cases h6 : namesL.getD 6 [] = s
  · subst h6; decide +kernel
  by_cases h7 : namesL.getD 7 [] = s
  · subst h7; decide +kernel
  have e1 : lastG s 8 = -1 := by simp only [lastG, h0, h1, h2, h3, h4, h5, h6, h7, if_false]
  rw [e1]
  simp only [namesL, List.getD_cons_zero, List.getD_cons_succ] at h0 h1 h2 h3 h4 h5 h6 h7
  simp only [namesL, idxH, h0, h1, h2, h3, h4, h5, h6, h7, if_false]
theorem idx_name {m : Nat} (h : m < 8) : idxH (namesL.getD m []) namesL 0 = m := by
  match m, h with
  | 0, _ => decide +kernel
  | 1, _ => decide +kernel
  | 2, _ => decide +kernel
  | 3, _ => decide +kernel
  | 4, _ => decide +kernel
  | 5, _ => decide +kernel
  | 6, _ => decide +kernel
  | 7, _ => decide +kernel
theorem idx_range (s : List UInt8) : ∀ (l : List (List UInt8)) (i : Nat), -1 ≤ idxH s l i ∧ idxH s l i < i + l.length
  | [], _ => by simp [idxH]; omega
  | z :: l, i => by
    rw [idxH]
    have := idx_range s l (i + 1)
    simp only [List.length_cons]
    split
    · omega
    · omega
theorem find_kit (s : List UInt8) (w : World) (hc : NamesAt w) :
    Calls Tryd.prog 4 #[.string ⟨⟨s⟩⟩] w fun e w' => e = .returned (.tuple #[.int .u8 (max (idxH s namesL 0) 0), .bool (decide (0 ≤ idxH s namesL 0))]) ∧ Go.RowKit.Below w.heap.size w w' := by
  obtain ⟨i0, i1⟩ := idx_range s namesL 0
  have i2 : idxH s namesL 0 < 8 := i1
  have hk : Lib.idxOfS ((namesL.map fun z => (⟨⟨z⟩⟩ : ByteArray)).take 8) ⟨⟨s⟩⟩ = idxH s namesL 0 := idx_kit s namesL 0
  generalize idxH s namesL 0 = x at i0 i2 hk ⊢
  have hx := fun h1 h2 h3 => Tryd.slices_Index_string 0 0 8 8 (namesL.map fun z => (⟨⟨z⟩⟩ : ByteArray)) ⟨⟨s⟩⟩ w h1 h2 h3
  rw [hk] at hx
  go_enter Tryd.func4, Tryd.ntmps4
  go_wp2_with fail
  refine (hx (by decide) (by decide) fun j hj => ?_).mono fun e w' hh => ?_
  · have hj' : j < 8 := hj
    rw [Nat.zero_add, hc j hj']
    congr 2
    have : j < namesL.length := hj
    simp [List.getD, List.getElem?_map, List.getElem?_eq_getElem this]
  · obtain ⟨he, hw⟩ := hh
    subst he hw
    simp only
    go_wp2_with fail
    go_ret2
    refine ⟨?_, Go.RowKit.Below.refl _ _⟩
    rfl
theorem c_find (w₀ : World) (hN : NamesAt w₀) (h : AHeap) (s : List UInt8) : ACall Tryd.prog w₀ 4 [.str s] h (fun r h' => r = .tuple [.int .u8 (max (idxH s namesL 0) 0), .bool (decide (0 ≤ idxH s namesL 0))] ∧ h' = h) := by
  refine acall_of_callsB (vals := [.string ⟨⟨s⟩⟩]) Tryd.func4 (by rfl) (by rfl) (fun φ vs hv => ?_) (fun φ => ?_) (fun w hb => find_kit s w fun i hi => ?_)
  · simp only [VRs, VR] at hv
    obtain ⟨_, _, rfl, rfl, rfl⟩ := hv
    rfl
  · simp only [VR]
    exact ⟨[_, _], rfl, by simp only [VRs, VR]; exact ⟨_, _, rfl, rfl, _, _, rfl, rfl, rfl⟩⟩
  · have hc := hN i hi
    rw [← hc]
    exact hb.cell (cell_lt hc)
theorem c_name (w₀ : World) (hN : NamesAt w₀) (h : AHeap) (m : Nat) (hm : m < 256) : ACall Tryd.prog w₀ 5 [.int .u8 m] h (fun r h' => r = .str (if m < 8 then namesL.getD m [] else []) ∧ h' = h) := by
  refine acall_intro (n := 8) (rs := [.tmp 2]) Tryd.func5 rfl rfl rfl rfl (Nat.le_of_ble_eq_true rfl) ?_
  simp only [initSlots]
  -- region 0  roundings.go:31
  refine awp_rseq [0] (by rfl) fun K hK => ?_
  simp (decide := true) only [aOps_nil, vOps_nil, fOps_nil, kOps_nil, ev, absV, absS, putD, Slots.put, Slots.get, Slots.keep, if_true, if_false, List.contains_cons, List.contains_nil, true_and, and_true, ↓ap_assign, pop_assign, rd_ne', ne_eq, not_false_eq_true, rd_any, AVal.cells, setAt, List.set_cons_zero, List.set_cons_succ, cellsAt, List.getD_cons_zero, List.getD_cons_succ, Nat.zero_add, Nat.reduceAdd, lv_bool, lv_int, lv_str, lv_nilPtr, lv_ptr, lv_nilSlice, lv_slice, lv_nilFunc, lv_func, lv_nilIface, lv_iface, lv_nilMap, lv_agg, lv_tuple, allLive, Bool.and_true, decA]
  repeat (with_reducible refine And.intro ?_ ?_; · first | trivial | omega | (intro hg; simp only [Bool.and_eq_true, Bool.or_eq_true, Bool.not_eq_true', Bool.and_eq_false_iff, Bool.or_eq_false_iff, Bool.not_eq_false', decide_eq_true_eq, decide_eq_false_iff_not, eqNil] at hg; omega) )
  apply hK; clear hK K
  refine awp_seq ?_
  -- region 1  roundings.go:32
  refine awp_rseq [0, 4] (by rfl) fun K hK => ?_
  simp (decide := true) only [aOps_nil, vOps_nil, fOps_nil, kOps_nil, ev, absV, absS, putD, Slots.put, Slots.get, Slots.keep, if_true, if_false, List.contains_cons, List.contains_nil, true_and, and_true, ↓ap_move, pop_move, ↓ap_binOp, pop_binOp, isNilC_int, cond_false, pBinX_int, pI_gtr, rd_ne', ne_eq, not_false_eq_true, rd_any, AVal.cells, setAt, List.set_cons_zero, List.set_cons_succ, cellsAt, List.getD_cons_zero, List.getD_cons_succ, Nat.zero_add, Nat.reduceAdd, lv_bool, lv_int, lv_str, lv_nilPtr, lv_ptr, lv_nilSlice, lv_slice, lv_nilFunc, lv_func, lv_nilIface, lv_iface, lv_nilMap, lv_agg, lv_tuple, allLive, Bool.and_true, decA]
  repeat (with_reducible refine And.intro ?_ ?_; · first | trivial | omega | (intro hg; simp only [Bool.and_eq_true, Bool.or_eq_true, Bool.not_eq_true', Bool.and_eq_false_iff, Bool.or_eq_false_iff, Bool.not_eq_false', decide_eq_true_eq, decide_eq_false_iff_not, eqNil] at hg; omega) )
  apply hK; clear hK K
  refine awp_cond (b := _) rfl (fun hb1 => ?_) (fun hb1 => ?_)
  · try simp only [decide_eq_true_eq, decide_eq_false_iff_not, Bool.not_eq_true', Bool.not_eq_false', Bool.and_eq_true, Bool.and_eq_false_iff, Bool.or_eq_true, Bool.or_eq_false_iff, Bool.true_eq, Bool.false_eq, reduceCtorEq] at hb1
    have hm8 : ¬ m < 8 := by omega
    -- region 2  roundings.go:33
    refine awp_rseq [2] (by rfl) fun K hK => ?_
    simp (decide := true) only [aOps_nil, vOps_nil, fOps_nil, kOps_nil, ev, absV, absS, putD, Slots.put, Slots.get, Slots.keep, if_true, if_false, List.contains_cons, List.contains_nil, true_and, and_true, ↓ap_assign, pop_assign, rd_ne', ne_eq, not_false_eq_true, rd_any, AVal.cells, setAt, List.set_cons_zero, List.set_cons_succ, cellsAt, List.getD_cons_zero, List.getD_cons_succ, Nat.zero_add, Nat.reduceAdd, lv_bool, lv_int, lv_str, lv_nilPtr, lv_ptr, lv_nilSlice, lv_slice, lv_nilFunc, lv_func, lv_nilIface, lv_iface, lv_nilMap, lv_agg, lv_tuple, allLive, Bool.and_true, decA]
    repeat (with_reducible refine And.intro ?_ ?_; · first | trivial | omega | (intro hg; simp only [Bool.and_eq_true, Bool.or_eq_true, Bool.not_eq_true', Bool.and_eq_false_iff, Bool.or_eq_false_iff, Bool.not_eq_false', decide_eq_true_eq, decide_eq_false_iff_not, eqNil] at hg; omega) )
    apply hK; clear hK K
    refine awp_ret ?_
    try simp only [thenA_ret, inBlockA_ret]
    refine retA_ret h (by repeat (first | exact Sub.refl _ | assumption | refine Sub.trans_set ?_ (by assumption))) (resPre_tmp (resPre_nil)) ?_
    simp (decide := true) only [aOps_nil, vOps_nil, fOps_nil, kOps_nil, ev, absV, absS, putD, Slots.put, Slots.get, Slots.keep, if_true, if_false, List.contains_cons, List.contains_nil, true_and, and_true, resOf_one, rd_ne', ne_eq, not_false_eq_true, rd_any, AVal.cells, setAt, List.set_cons_zero, List.set_cons_succ, cellsAt, List.getD_cons_zero, List.getD_cons_succ, Nat.zero_add, Nat.reduceAdd, lv_bool, lv_int, lv_str, lv_nilPtr, lv_ptr, lv_nilSlice, lv_slice, lv_nilFunc, lv_func, lv_nilIface, lv_iface, lv_nilMap, lv_agg, lv_tuple, allLive, Bool.and_true, decA]
    rw [if_neg hm8]
  · try simp only [decide_eq_true_eq, decide_eq_false_iff_not, Bool.not_eq_true', Bool.not_eq_false', Bool.and_eq_true, Bool.and_eq_false_iff, Bool.or_eq_true, Bool.or_eq_false_iff, Bool.true_eq, Bool.false_eq, reduceCtorEq] at hb1
    have hm8 : m < 8 := by omega
    have hr := hN.rd h hm8
    refine awp_skip ?_
    change Awp _ _ _ _ _ _ _
    -- region 3  roundings.go:35
    refine awp_rseq [2] (by rfl) fun K hK => ?_
    simp (decide := true) only [aOps_nil, vOps_nil, fOps_nil, kOps_nil, ev, absV, absS, putD, Slots.put, Slots.get, Slots.keep, if_true, if_false, List.contains_cons, List.contains_nil, true_and, and_true, ↓ap_move, pop_move, ↓ap_indexAddrL, apL_mk, pIndexAddr_ptr Tryd.underlying30 sz9, ↓ap_loadL, pLoad_one ag9, ↓ap_assign, pop_assign, rd_ne', ne_eq, not_false_eq_true, rd_any, AVal.cells, setAt, List.set_cons_zero, List.set_cons_succ, cellsAt, List.getD_cons_zero, List.getD_cons_succ, Nat.zero_add, Nat.reduceAdd, lv_bool, lv_int, lv_str, lv_nilPtr, lv_ptr, lv_nilSlice, lv_slice, lv_nilFunc, lv_func, lv_nilIface, lv_iface, lv_nilMap, lv_agg, lv_tuple, allLive, Bool.and_true, decA, hr, Int.toNat_natCast, Nat.mul_one, Nat.zero_add]
    repeat (with_reducible refine And.intro ?_ ?_; · first | trivial | omega | (intro hg; simp only [Bool.and_eq_true, Bool.or_eq_true, Bool.not_eq_true', Bool.and_eq_false_iff, Bool.or_eq_false_iff, Bool.not_eq_false', decide_eq_true_eq, decide_eq_false_iff_not, eqNil] at hg; omega) )
    apply hK; clear hK K
    refine awp_ret ?_
    try simp only [thenA_ret, inBlockA_ret]
    refine retA_ret h (by repeat (first | exact Sub.refl _ | assumption | refine Sub.trans_set ?_ (by assumption))) (resPre_tmp (resPre_nil)) ?_
    simp (decide := true) only [aOps_nil, vOps_nil, fOps_nil, kOps_nil, ev, absV, absS, putD, Slots.put, Slots.get, Slots.keep, if_true, if_false, List.contains_cons, List.contains_nil, true_and, and_true, resOf_one, rd_ne', ne_eq, not_false_eq_true, rd_any, AVal.cells, setAt, List.set_cons_zero, List.set_cons_succ, cellsAt, List.getD_cons_zero, List.getD_cons_succ, Nat.zero_add, Nat.reduceAdd, lv_bool, lv_int, lv_str, lv_nilPtr, lv_ptr, lv_nilSlice, lv_slice, lv_nilFunc, lv_func, lv_nilIface, lv_iface, lv_nilMap, lv_agg, lv_tuple, allLive, Bool.and_true, decA]
    rw [if_pos hm8]
end Go.Proofs.YteagjfcmhmmljaaDoor

/-
  The law RoundingsNames.
  Conditions: none.
-/
namespace Go.Proofs.YteagjfcmhmmljaaDoor
open Go.AM
open Go.Proofs
set_option maxRecDepth 100000
theorem names_read {i : Nat} (h : i < 8) : (namesL.map AVal.str).getD i .dead = .str (namesL.getD i []) := by
  match i, h with
  | 0, _ => rfl
  | 1, _ => rfl
  | 2, _ => rfl
  | 3, _ => rfl
  | 4, _ => rfl
  | 5, _ => rfl
  | 6, _ => rfl
  | 7, _ => rfl
set_option maxHeartbeats 1000000 in
theorem l_RoundingsNames (w₀ : World) (ht : Tab10 w₀) (hN : NamesAt w₀) (h : AHeap) (m0 : UInt8) (s : List UInt8) (hs : s.length ≤ 9223372036854775807) :
    ACall Tryd.prog w₀ 3 [.int .u8 m0.toNat, .str s] h (fun x _ => x = .bool true) := by
  refine ACall.mono (R := fun x h' => x = .bool true ∧ h' = h) ?_ fun x h' hx => hx.1
  have hm : m0.toNat < 256 := m0.toNat_lt
  generalize m0.toNat = m at hm ⊢
  obtain ⟨L, hL⟩ : ∃ L, L = namesL.map AVal.str := ⟨_, rfl⟩
  have hr : ∀ i, i < 8 → L.getD i .dead = .str (namesL.getD i []) := fun i hi => by rw [hL]; exact names_read hi
  refine acall_intro (n := 68) (rs := [.tmp 4]) Tryd.func3 rfl rfl rfl rfl (Nat.le_of_ble_eq_true rfl) ?_
  simp only [initSlots]
  -- region 0  law.go:63
  refine awp_rseq [0, 1] (by rfl) fun K hK => ?_
  simp (decide := true) only [aOps_nil, vOps_nil, fOps_nil, kOps_nil, ev, absV, absS, putD, Slots.put, Slots.get, Slots.keep, if_true, if_false, List.contains_cons, List.contains_nil, true_and, and_true, ↓ap_assign, pop_assign, rd_ne', ne_eq, not_false_eq_true, rd_any, AVal.cells, setAt, List.set_cons_zero, List.set_cons_succ, cellsAt, List.getD_cons_zero, List.getD_cons_succ, Nat.zero_add, Nat.reduceAdd, lv_bool, lv_int, lv_str, lv_nilPtr, lv_ptr, lv_nilSlice, lv_slice, lv_nilFunc, lv_func, lv_nilIface, lv_iface, lv_nilMap, lv_agg, lv_tuple, allLive, Bool.and_true, decA]
  repeat (with_reducible refine And.intro ?_ ?_; · first | trivial | omega | (intro hg; simp only [Bool.and_eq_true, Bool.or_eq_true, Bool.not_eq_true', Bool.and_eq_false_iff, Bool.or_eq_false_iff, Bool.not_eq_false', decide_eq_true_eq, decide_eq_false_iff_not, eqNil] at hg; omega) )
  apply hK; clear hK K
  -- region 1  law.go:64
  refine awp_rseq [0, 1, 5] (by rfl) fun K hK => ?_
  refine aOps_buildSlice (cs := L) (by rw [hL]; kernel_rfl) fun k1q0 hk1q0 => ?_
  try have hf_1q0 : h k1q0 = none := by first | assumption | (simp only [AHeap.set_none] at hk1q0; simp only [hk1q0])
  simp (decide := true) only [aOps_nil, vOps_nil, fOps_nil, kOps_nil, ev, absV, absS, putD, Slots.put, Slots.get, Slots.keep, if_true, if_false, List.contains_cons, List.contains_nil, true_and, and_true, ↓ap_assign, pop_assign, rd_ne', ne_eq, not_false_eq_true, rd_any, AVal.cells, setAt, List.set_cons_zero, List.set_cons_succ, cellsAt, List.getD_cons_zero, List.getD_cons_succ, Nat.zero_add, Nat.reduceAdd, lv_bool, lv_int, lv_str, lv_nilPtr, lv_ptr, lv_nilSlice, lv_slice, lv_nilFunc, lv_func, lv_nilIface, lv_iface, lv_nilMap, lv_agg, lv_tuple, allLive, Bool.and_true, decA]
  repeat (with_reducible refine And.intro ?_ ?_; · first | trivial | omega | (intro hg; simp only [Bool.and_eq_true, Bool.or_eq_true, Bool.not_eq_true', Bool.and_eq_false_iff, Bool.or_eq_false_iff, Bool.not_eq_false', decide_eq_true_eq, decide_eq_false_iff_not, eqNil] at hg; omega) )
  apply hK; clear hK K
  -- region 2  law.go:65
  refine awp_rseq [0, 1, 5, 6] (by rfl) fun K hK => ?_
  simp (decide := true) only [aOps_nil, vOps_nil, fOps_nil, kOps_nil, ev, absV, absS, putD, Slots.put, Slots.get, Slots.keep, if_true, if_false, List.contains_cons, List.contains_nil, true_and, and_true, ↓ap_assign, pop_assign, rd_ne', ne_eq, not_false_eq_true, rd_any, AVal.cells, setAt, List.set_cons_zero, List.set_cons_succ, cellsAt, List.getD_cons_zero, List.getD_cons_succ, Nat.zero_add, Nat.reduceAdd, lv_bool, lv_int, lv_str, lv_nilPtr, lv_ptr, lv_nilSlice, lv_slice, lv_nilFunc, lv_func, lv_nilIface, lv_iface, lv_nilMap, lv_agg, lv_tuple, allLive, Bool.and_true, decA]
  repeat (with_reducible refine And.intro ?_ ?_; · first | trivial | omega | (intro hg; simp only [Bool.and_eq_true, Bool.or_eq_true, Bool.not_eq_true', Bool.and_eq_false_iff, Bool.or_eq_false_iff, Bool.not_eq_false', decide_eq_true_eq, decide_eq_false_iff_not, eqNil] at hg; omega) )
  apply hK; clear hK K
  refine awp_seq ?_
  -- region 3  law.go:66
  refine awp_rseq [0, 1, 5, 6, 15] (by rfl) fun K hK => ?_
  simp (decide := true) only [aOps_nil, vOps_nil, fOps_nil, kOps_nil, ev, absV, absS, putD, Slots.put, Slots.get, Slots.keep, if_true, if_false, List.contains_cons, List.contains_nil, true_and, and_true, ↓ap_move, pop_move, ↓ap_binOp, pop_binOp, isNilC_int, cond_false, pBinX_int, pI_lss, rd_ne', ne_eq, not_false_eq_true, rd_any, AVal.cells, setAt, List.set_cons_zero, List.set_cons_succ, cellsAt, List.getD_cons_zero, List.getD_cons_succ, Nat.zero_add, Nat.reduceAdd, lv_bool, lv_int, lv_str, lv_nilPtr, lv_ptr, lv_nilSlice, lv_slice, lv_nilFunc, lv_func, lv_nilIface, lv_iface, lv_nilMap, lv_agg, lv_tuple, allLive, Bool.and_true, decA]
  repeat (with_reducible refine And.intro ?_ ?_; · first | trivial | omega | (intro hg; simp only [Bool.and_eq_true, Bool.or_eq_true, Bool.not_eq_true', Bool.and_eq_false_iff, Bool.or_eq_false_iff, Bool.not_eq_false', decide_eq_true_eq, decide_eq_false_iff_not, eqNil] at hg; omega) )
  apply hK; clear hK K
  refine awp_joinT [0, 1, 5, 6] (fun (u : Unit) => [(0, .int .u8 m), (1, .str s), (5, .slice (.own k1q0) 0 8 (.exact 8)), (6, .str (if m < 8 then namesL.getD m [] else []))]) (fun (u : Unit) => h.set k1q0 ⟨L, 0⟩) (fun (u : Unit) => True) ?_ ?_
  · refine awp_cond (b := _) rfl (fun hb1 => ?_) (fun hb1 => ?_)
    · try simp only [decide_eq_true_eq, decide_eq_false_iff_not, Bool.not_eq_true', Bool.not_eq_false', Bool.and_eq_true, Bool.and_eq_false_iff, Bool.or_eq_true, Bool.or_eq_false_iff, Bool.true_eq, Bool.false_eq, reduceCtorEq] at hb1
      have hm8 : m < 8 := by omega
      have hrm := hr m hm8
      -- region 4  law.go:67
      refine awp_rseq [0, 1, 5, 6] (by rfl) fun K hK => ?_
      simp (decide := true) only [aOps_nil, vOps_nil, fOps_nil, kOps_nil, ev, absV, absS, putD, Slots.put, Slots.get, Slots.keep, if_true, if_false, List.contains_cons, List.contains_nil, true_and, and_true, ↓ap_move, pop_move, ↓ap_indexAddrL, apL_mk, pIndexAddr_slice Tryd.underlying22 sz9, ↓ap_loadL, pLoad_one ag9, ↓ap_assign, pop_assign, rd_ne', ne_eq, not_false_eq_true, rd_any, AVal.cells, setAt, List.set_cons_zero, List.set_cons_succ, cellsAt, List.getD_cons_zero, List.getD_cons_succ, Nat.zero_add, Nat.reduceAdd, lv_bool, lv_int, lv_str, lv_nilPtr, lv_ptr, lv_nilSlice, lv_slice, lv_nilFunc, lv_func, lv_nilIface, lv_iface, lv_nilMap, lv_agg, lv_tuple, allLive, Bool.and_true, decA, hrm, Int.toNat_natCast, Nat.mul_one, Nat.zero_add]
      repeat (with_reducible refine And.intro ?_ ?_; · first | trivial | omega | (intro hg; simp only [Bool.and_eq_true, Bool.or_eq_true, Bool.not_eq_true', Bool.and_eq_false_iff, Bool.or_eq_false_iff, Bool.not_eq_false', decide_eq_true_eq, decide_eq_false_iff_not, eqNil] at hg; omega) )
      apply hK; clear hK K
      -- region 5  law.go:68
      refine awp_rseq [0, 1, 5, 6, 7, 8] (by rfl) fun K hK => ?_
      simp (decide := true) only [aOps_nil, vOps_nil, fOps_nil, kOps_nil, ev, absV, absS, putD, Slots.put, Slots.get, Slots.keep, if_true, if_false, List.contains_cons, List.contains_nil, true_and, and_true, ↓ap_move, pop_move, rd_ne', ne_eq, not_false_eq_true, rd_any, AVal.cells, setAt, List.set_cons_zero, List.set_cons_succ, cellsAt, List.getD_cons_zero, List.getD_cons_succ, Nat.zero_add, Nat.reduceAdd, lv_bool, lv_int, lv_str, lv_nilPtr, lv_ptr, lv_nilSlice, lv_slice, lv_nilFunc, lv_func, lv_nilIface, lv_iface, lv_nilMap, lv_agg, lv_tuple, allLive, Bool.and_true, decA]
      repeat (with_reducible refine And.intro ?_ ?_; · first | trivial | omega | (intro hg; simp only [Bool.and_eq_true, Bool.or_eq_true, Bool.not_eq_true', Bool.and_eq_false_iff, Bool.or_eq_false_iff, Bool.not_eq_false', decide_eq_true_eq, decide_eq_false_iff_not, eqNil] at hg; omega) )
      refine aOps_callV (V := .tuple [.int .u8 m, .bool true]) (by rfl) (by rfl) (ACall.mono (c_find w₀ hN _ (namesL.getD m [])) fun r h' hh => by rw [idx_name hm8] at hh; exact ⟨by rw [hh.1, show max ((m : Nat) : Int) 0 = m by omega, show decide (0 ≤ ((m : Nat) : Int)) = true by simp], hh.2⟩) ?_
      simp (decide := true) only [aOps_nil, vOps_nil, fOps_nil, kOps_nil, ev, absV, absS, putD, Slots.put, Slots.get, Slots.keep, if_true, if_false, List.contains_cons, List.contains_nil, true_and, and_true, ↓ap_move, pop_move, ↓ap_extract, pop_extract, pExt_tuple, List.length_cons, List.length_nil, List.getD_cons_zero, List.getD_cons_succ, ↓ap_assign, pop_assign, rd_ne', ne_eq, not_false_eq_true, rd_any, AVal.cells, setAt, List.set_cons_zero, List.set_cons_succ, cellsAt, List.getD_cons_zero, List.getD_cons_succ, Nat.zero_add, Nat.reduceAdd, lv_bool, lv_int, lv_str, lv_nilPtr, lv_ptr, lv_nilSlice, lv_slice, lv_nilFunc, lv_func, lv_nilIface, lv_iface, lv_nilMap, lv_agg, lv_tuple, allLive, Bool.and_true, decA]
      repeat (with_reducible refine And.intro ?_ ?_; · first | trivial | omega | (intro hg; simp only [Bool.and_eq_true, Bool.or_eq_true, Bool.not_eq_true', Bool.and_eq_false_iff, Bool.or_eq_false_iff, Bool.not_eq_false', decide_eq_true_eq, decide_eq_false_iff_not, eqNil] at hg; omega) )
      apply hK; clear hK K
      -- region 6  law.go:69
      refine awp_rseq [0, 1, 5, 6, 31] (by rfl) fun K hK => ?_
      simp (decide := true) only [aOps_nil, vOps_nil, fOps_nil, kOps_nil, ev, absV, absS, putD, Slots.put, Slots.get, Slots.keep, if_true, if_false, List.contains_cons, List.contains_nil, true_and, and_true, ↓ap_move, pop_move, ↓ap_unOp, pop_unOp, pU_not, ↓ag_move, agP, agQ_some, gv, nthDst, gKnown_bool, gKnown_cond, guardB_cond, guardB_bool_true, guardB_bool_false, cv_cv, implies_true, Bool.not_not, decide_true, decide_false, Bool.not_false, Bool.not_true, condV_true, condV_false, forall_const, false_implies, pickV_true, pickV_false, Bool.and_true, Bool.and_false, Bool.true_and, Bool.false_and, Bool.or_true, Bool.or_false, Bool.true_or, Bool.false_or, ↓ag_binOp, pop_binOp, isNilC_tmp, cond_false, cv_binl, cv_binr, cp_binl, cp_binr, pBinX_int, pI_neq, ↓ap_pick, pop_pick, pPick_bool, pickV_cond_l, pickV_cond_r, pickV_cond_rn, cp_nest1, cp_nest2, cp_nest3, cp_nest4, pickV_and, pickV_or, rd_ne', ne_eq, not_false_eq_true, rd_any, AVal.cells, setAt, List.set_cons_zero, List.set_cons_succ, cellsAt, List.getD_cons_zero, List.getD_cons_succ, Nat.zero_add, Nat.reduceAdd, lv_bool, lv_int, lv_str, lv_nilPtr, lv_ptr, lv_nilSlice, lv_slice, lv_nilFunc, lv_func, lv_nilIface, lv_iface, lv_nilMap, lv_agg, lv_tuple, allLive, Bool.and_true, decA]
      try simp (disch := omega) only [wrap_i64, wrap_u8]
      repeat (with_reducible refine And.intro ?_ ?_; · first | trivial | omega | (intro hg; simp only [Bool.and_eq_true, Bool.or_eq_true, Bool.not_eq_true', Bool.and_eq_false_iff, Bool.or_eq_false_iff, Bool.not_eq_false', decide_eq_true_eq, decide_eq_false_iff_not, eqNil] at hg; omega) )
      apply hK; clear hK K
      refine awp_cond (b := _) rfl (fun hb2 => ?_) (fun hb2 => ?_)
      · exact absurd hb2 (by simp)
      · try simp only [decide_eq_true_eq, decide_eq_false_iff_not, Bool.not_eq_true', Bool.not_eq_false', Bool.and_eq_true, Bool.and_eq_false_iff, Bool.or_eq_true, Bool.or_eq_false_iff, Bool.true_eq, Bool.false_eq, reduceCtorEq] at hb2
        refine awp_skip ?_
        try simp only [thenA_normal, inBlockA_normal]
        first
        | exact ⟨(), by rw [if_pos hm8]; rfl, Sub.refl _, trivial⟩
        | exact ⟨(), by rw [if_neg hm8]; rfl, Sub.refl _, trivial⟩
    · try simp only [decide_eq_true_eq, decide_eq_false_iff_not, Bool.not_eq_true', Bool.not_eq_false', Bool.and_eq_true, Bool.and_eq_false_iff, Bool.or_eq_true, Bool.or_eq_false_iff, Bool.true_eq, Bool.false_eq, reduceCtorEq] at hb1
      have hm8 : ¬ m < 8 := by omega
      refine awp_skip ?_
      try simp only [thenA_normal, inBlockA_normal]
      first
      | exact ⟨(), by rw [if_pos hm8]; rfl, Sub.refl _, trivial⟩
      | exact ⟨(), by rw [if_neg hm8]; rfl, Sub.refl _, trivial⟩
  · rintro u -
    -- region 8  law.go:73
    refine awp_rseq [0, 1, 5, 6, 9] (by rfl) fun K hK => ?_
    simp (decide := true) only [aOps_nil, vOps_nil, fOps_nil, kOps_nil, ev, absV, absS, putD, Slots.put, Slots.get, Slots.keep, if_true, if_false, List.contains_cons, List.contains_nil, true_and, and_true, ↓ap_assign, pop_assign, rd_ne', ne_eq, not_false_eq_true, rd_any, AVal.cells, setAt, List.set_cons_zero, List.set_cons_succ, cellsAt, List.getD_cons_zero, List.getD_cons_succ, Nat.zero_add, Nat.reduceAdd, lv_bool, lv_int, lv_str, lv_nilPtr, lv_ptr, lv_nilSlice, lv_slice, lv_nilFunc, lv_func, lv_nilIface, lv_iface, lv_nilMap, lv_agg, lv_tuple, allLive, Bool.and_true, decA]
    repeat (with_reducible refine And.intro ?_ ?_; · first | trivial | omega | (intro hg; simp only [Bool.and_eq_true, Bool.or_eq_true, Bool.not_eq_true', Bool.and_eq_false_iff, Bool.or_eq_false_iff, Bool.not_eq_false', decide_eq_true_eq, decide_eq_false_iff_not, eqNil] at hg; omega) )
    apply hK; clear hK K
    refine awp_seq ?_
    -- region 9  law.go:74
    refine awp_rseq [0, 1, 5, 6, 9, 10] (by rfl) fun K hK => ?_
    simp (decide := true) only [aOps_nil, vOps_nil, fOps_nil, kOps_nil, ev, absV, absS, putD, Slots.put, Slots.get, Slots.keep, if_true, if_false, List.contains_cons, List.contains_nil, true_and, and_true, ↓ap_assign, pop_assign, rd_ne', ne_eq, not_false_eq_true, rd_any, AVal.cells, setAt, List.set_cons_zero, List.set_cons_succ, cellsAt, List.getD_cons_zero, List.getD_cons_succ, Nat.zero_add, Nat.reduceAdd, lv_bool, lv_int, lv_str, lv_nilPtr, lv_ptr, lv_nilSlice, lv_slice, lv_nilFunc, lv_func, lv_nilIface, lv_iface, lv_nilMap, lv_agg, lv_tuple, allLive, Bool.and_true, decA]
    repeat (with_reducible refine And.intro ?_ ?_; · first | trivial | omega | (intro hg; simp only [Bool.and_eq_true, Bool.or_eq_true, Bool.not_eq_true', Bool.and_eq_false_iff, Bool.or_eq_false_iff, Bool.not_eq_false', decide_eq_true_eq, decide_eq_false_iff_not, eqNil] at hg; omega) )
    apply hK; clear hK K
    refine awp_block ?_
    refine awp_loopG [0, 1, 5, 6, 9, 10] (fun i : Nat => [(0, .int .u8 m), (1, .str s), (5, .slice (.own k1q0) 0 8 (.exact 8)), (6, .str (if m < 8 then namesL.getD m [] else [])), (9, .int .i64 (lastG s i)), (10, .int .i64 i)]) (fun i : Nat => h.set k1q0 ⟨L, 0⟩) (fun i : Nat => i ≤ 8) (fun i : Nat => 8 - i) 0 (by rfl) (Sub.refl _) (Nat.zero_le _) ?_
    rintro i hi
    refine awp_seq ?_
    -- region 10  law.go:74
    refine awp_rseq [0, 1, 5, 6, 9, 10, 33] (by rfl) fun K hK => ?_
    simp (decide := true) only [aOps_nil, vOps_nil, fOps_nil, kOps_nil, ev, absV, absS, putD, Slots.put, Slots.get, Slots.keep, if_true, if_false, List.contains_cons, List.contains_nil, true_and, and_true, ↓ap_move, pop_move, ↓ap_binOp, pop_binOp, isNilC_int, cond_false, pBinX_int, pI_lss, rd_ne', ne_eq, not_false_eq_true, rd_any, AVal.cells, setAt, List.set_cons_zero, List.set_cons_succ, cellsAt, List.getD_cons_zero, List.getD_cons_succ, Nat.zero_add, Nat.reduceAdd, lv_bool, lv_int, lv_str, lv_nilPtr, lv_ptr, lv_nilSlice, lv_slice, lv_nilFunc, lv_func, lv_nilIface, lv_iface, lv_nilMap, lv_agg, lv_tuple, allLive, Bool.and_true, decA]
    repeat (with_reducible refine And.intro ?_ ?_; · first | trivial | omega | (intro hg; simp only [Bool.and_eq_true, Bool.or_eq_true, Bool.not_eq_true', Bool.and_eq_false_iff, Bool.or_eq_false_iff, Bool.not_eq_false', decide_eq_true_eq, decide_eq_false_iff_not, eqNil] at hg; omega) )
    apply hK; clear hK K
    refine awp_cond (b := _) rfl (fun hb3 => ?_) (fun hb3 => ?_)
    · try simp only [decide_eq_true_eq, decide_eq_false_iff_not, Bool.not_eq_true', Bool.not_eq_false', Bool.and_eq_true, Bool.and_eq_false_iff, Bool.or_eq_true, Bool.or_eq_false_iff, Bool.true_eq, Bool.false_eq, reduceCtorEq] at hb3
      have hi' : i < 8 := by omega
      have hri := hr i hi'
      refine awp_skip ?_
      change Awp _ _ _ _ _ _ _
      refine awp_seq ?_
      refine awp_block ?_
      -- region 12  law.go:75
      refine awp_rseq [0, 1, 5, 6, 9, 10, 41] (by rfl) fun K hK => ?_
      simp (decide := true) only [aOps_nil, vOps_nil, fOps_nil, kOps_nil, ev, absV, absS, putD, Slots.put, Slots.get, Slots.keep, if_true, if_false, List.contains_cons, List.contains_nil, true_and, and_true, ↓ap_move, pop_move, ↓ap_indexAddrL, apL_mk, pIndexAddr_slice Tryd.underlying22 sz9, ↓ap_loadL, pLoad_one ag9, ↓ap_binOp, pop_binOp, isNilC_tmp, cond_false, pBinX_str, pS_eql, rd_ne', ne_eq, not_false_eq_true, rd_any, AVal.cells, setAt, List.set_cons_zero, List.set_cons_succ, cellsAt, List.getD_cons_zero, List.getD_cons_succ, Nat.zero_add, Nat.reduceAdd, lv_bool, lv_int, lv_str, lv_nilPtr, lv_ptr, lv_nilSlice, lv_slice, lv_nilFunc, lv_func, lv_nilIface, lv_iface, lv_nilMap, lv_agg, lv_tuple, allLive, Bool.and_true, decA, hri, Int.toNat_natCast, Nat.mul_one, Nat.zero_add]
      repeat (with_reducible refine And.intro ?_ ?_; · first | trivial | omega | (intro hg; simp only [Bool.and_eq_true, Bool.or_eq_true, Bool.not_eq_true', Bool.and_eq_false_iff, Bool.or_eq_false_iff, Bool.not_eq_false', decide_eq_true_eq, decide_eq_false_iff_not, eqNil] at hg; omega) )
      apply hK; clear hK K
      refine awp_cond (b := _) rfl (fun hb4 => ?_) (fun hb4 => ?_)
      · try simp only [decide_eq_true_eq, decide_eq_false_iff_not, Bool.not_eq_true', Bool.not_eq_false', Bool.and_eq_true, Bool.and_eq_false_iff, Bool.or_eq_true, Bool.or_eq_false_iff, Bool.true_eq, Bool.false_eq, reduceCtorEq] at hb4
        have hl : lastG s (i + 1) = i := by rw [lastG, if_pos hb4]
        -- region 13  law.go:76
        refine awp_r [0, 1, 5, 6, 9, 10] (by rfl) ?_
        simp (decide := true) only [aOps_nil, vOps_nil, fOps_nil, kOps_nil, ev, absV, absS, putD, Slots.put, Slots.get, Slots.keep, if_true, if_false, List.contains_cons, List.contains_nil, true_and, and_true, ↓ap_move, pop_move, ↓ap_assign, pop_assign, rd_ne', ne_eq, not_false_eq_true, rd_any, AVal.cells, setAt, List.set_cons_zero, List.set_cons_succ, cellsAt, List.getD_cons_zero, List.getD_cons_succ, Nat.zero_add, Nat.reduceAdd, lv_bool, lv_int, lv_str, lv_nilPtr, lv_ptr, lv_nilSlice, lv_slice, lv_nilFunc, lv_func, lv_nilIface, lv_iface, lv_nilMap, lv_agg, lv_tuple, allLive, Bool.and_true, decA]
        repeat (with_reducible refine And.intro ?_ ?_; · first | trivial | omega | (intro hg; simp only [Bool.and_eq_true, Bool.or_eq_true, Bool.not_eq_true', Bool.and_eq_false_iff, Bool.or_eq_false_iff, Bool.not_eq_false', decide_eq_true_eq, decide_eq_false_iff_not, eqNil] at hg; omega) )
        change Awp _ _ _ _ _ _ _
        -- region 11  law.go:74
        refine awp_r [0, 1, 5, 6, 9, 10] (by rfl) ?_
        simp (decide := true) only [aOps_nil, vOps_nil, fOps_nil, kOps_nil, ev, absV, absS, putD, Slots.put, Slots.get, Slots.keep, if_true, if_false, List.contains_cons, List.contains_nil, true_and, and_true, ↓ap_move, pop_move, ↓ap_binOp, pop_binOp, isNilC_int, cond_false, pBinX_int, pI_add, ↓ap_assign, pop_assign, rd_ne', ne_eq, not_false_eq_true, rd_any, AVal.cells, setAt, List.set_cons_zero, List.set_cons_succ, cellsAt, List.getD_cons_zero, List.getD_cons_succ, Nat.zero_add, Nat.reduceAdd, lv_bool, lv_int, lv_str, lv_nilPtr, lv_ptr, lv_nilSlice, lv_slice, lv_nilFunc, lv_func, lv_nilIface, lv_iface, lv_nilMap, lv_agg, lv_tuple, allLive, Bool.and_true, decA]
        try simp (disch := omega) only [wrap_i64, wrap_u8]
        repeat (with_reducible refine And.intro ?_ ?_; · first | trivial | omega | (intro hg; simp only [Bool.and_eq_true, Bool.or_eq_true, Bool.not_eq_true', Bool.and_eq_false_iff, Bool.or_eq_false_iff, Bool.not_eq_false', decide_eq_true_eq, decide_eq_false_iff_not, eqNil] at hg; omega) )
        try simp only [thenA_normal, inBlockA_normal]
        exact ⟨i + 1, by rw [hl]; rfl, Sub.refl _, hi', by omega⟩
      · try simp only [decide_eq_true_eq, decide_eq_false_iff_not, Bool.not_eq_true', Bool.not_eq_false', Bool.and_eq_true, Bool.and_eq_false_iff, Bool.or_eq_true, Bool.or_eq_false_iff, Bool.true_eq, Bool.false_eq, reduceCtorEq] at hb4
        have hl : lastG s (i + 1) = lastG s i := by rw [lastG, if_neg hb4]
        refine awp_skip ?_
        change Awp _ _ _ _ _ _ _
        -- region 11  law.go:74
        refine awp_r [0, 1, 5, 6, 9, 10] (by rfl) ?_
        simp (decide := true) only [aOps_nil, vOps_nil, fOps_nil, kOps_nil, ev, absV, absS, putD, Slots.put, Slots.get, Slots.keep, if_true, if_false, List.contains_cons, List.contains_nil, true_and, and_true, ↓ap_move, pop_move, ↓ap_binOp, pop_binOp, isNilC_int, cond_false, pBinX_int, pI_add, ↓ap_assign, pop_assign, rd_ne', ne_eq, not_false_eq_true, rd_any, AVal.cells, setAt, List.set_cons_zero, List.set_cons_succ, cellsAt, List.getD_cons_zero, List.getD_cons_succ, Nat.zero_add, Nat.reduceAdd, lv_bool, lv_int, lv_str, lv_nilPtr, lv_ptr, lv_nilSlice, lv_slice, lv_nilFunc, lv_func, lv_nilIface, lv_iface, lv_nilMap, lv_agg, lv_tuple, allLive, Bool.and_true, decA]
        try simp (disch := omega) only [wrap_i64, wrap_u8]
        repeat (with_reducible refine And.intro ?_ ?_; · first | trivial | omega | (intro hg; simp only [Bool.and_eq_true, Bool.or_eq_true, Bool.not_eq_true', Bool.and_eq_false_iff, Bool.or_eq_false_iff, Bool.not_eq_false', decide_eq_true_eq, decide_eq_false_iff_not, eqNil] at hg; omega) )
        try simp only [thenA_normal, inBlockA_normal]
        exact ⟨i + 1, by rw [hl]; rfl, Sub.refl _, hi', by omega⟩
    · try simp only [decide_eq_true_eq, decide_eq_false_iff_not, Bool.not_eq_true', Bool.not_eq_false', Bool.and_eq_true, Bool.and_eq_false_iff, Bool.or_eq_true, Bool.or_eq_false_iff, Bool.true_eq, Bool.false_eq, reduceCtorEq] at hb3
      obtain rfl : i = 8 := by omega
      rw [last_idx]
      obtain ⟨x, hx⟩ : ∃ x, x = idxH s namesL 0 := ⟨_, rfl⟩
      have hxr := idx_range s namesL 0
      rw [← hx] at hxr ⊢
      have hx2 : x < 8 := hxr.2
      refine awp_exit ?_
      change Awp _ _ _ _ _ _ _
      -- region 14  law.go:79
      refine awp_rseq [0, 6, 9, 11, 12] (by rfl) fun K hK => ?_
      simp (decide := true) only [aOps_nil, vOps_nil, fOps_nil, kOps_nil, ev, absV, absS, putD, Slots.put, Slots.get, Slots.keep, if_true, if_false, List.contains_cons, List.contains_nil, true_and, and_true, ↓ap_move, pop_move, rd_ne', ne_eq, not_false_eq_true, rd_any, AVal.cells, setAt, List.set_cons_zero, List.set_cons_succ, cellsAt, List.getD_cons_zero, List.getD_cons_succ, Nat.zero_add, Nat.reduceAdd, lv_bool, lv_int, lv_str, lv_nilPtr, lv_ptr, lv_nilSlice, lv_slice, lv_nilFunc, lv_func, lv_nilIface, lv_iface, lv_nilMap, lv_agg, lv_tuple, allLive, Bool.and_true, decA]
      repeat (with_reducible refine And.intro ?_ ?_; · first | trivial | omega | (intro hg; simp only [Bool.and_eq_true, Bool.or_eq_true, Bool.not_eq_true', Bool.and_eq_false_iff, Bool.or_eq_false_iff, Bool.not_eq_false', decide_eq_true_eq, decide_eq_false_iff_not, eqNil] at hg; omega) )
      refine aOps_callV (V := .tuple [.int .u8 (max x 0), .bool (decide (0 ≤ x))]) (by rfl) (by rfl) (by rw [hx]; exact c_find w₀ hN _ s) ?_
      simp (decide := true) only [aOps_nil, vOps_nil, fOps_nil, kOps_nil, ev, absV, absS, putD, Slots.put, Slots.get, Slots.keep, if_true, if_false, List.contains_cons, List.contains_nil, true_and, and_true, ↓ap_move, pop_move, ↓ap_extract, pop_extract, pExt_tuple, List.length_cons, List.length_nil, List.getD_cons_zero, List.getD_cons_succ, ↓ap_assign, pop_assign, rd_ne', ne_eq, not_false_eq_true, rd_any, AVal.cells, setAt, List.set_cons_zero, List.set_cons_succ, cellsAt, List.getD_cons_zero, List.getD_cons_succ, Nat.zero_add, Nat.reduceAdd, lv_bool, lv_int, lv_str, lv_nilPtr, lv_ptr, lv_nilSlice, lv_slice, lv_nilFunc, lv_func, lv_nilIface, lv_iface, lv_nilMap, lv_agg, lv_tuple, allLive, Bool.and_true, decA]
      repeat (with_reducible refine And.intro ?_ ?_; · first | trivial | omega | (intro hg; simp only [Bool.and_eq_true, Bool.or_eq_true, Bool.not_eq_true', Bool.and_eq_false_iff, Bool.or_eq_false_iff, Bool.not_eq_false', decide_eq_true_eq, decide_eq_false_iff_not, eqNil] at hg; omega) )
      apply hK; clear hK K
      -- region 15  law.go:80
      refine awp_rseq [4] (by rfl) fun K hK => ?_
      simp (decide := true) only [aOps_nil, vOps_nil, fOps_nil, kOps_nil, ev, absV, absS, putD, Slots.put, Slots.get, Slots.keep, if_true, if_false, List.contains_cons, List.contains_nil, true_and, and_true, ↓ap_move, pop_move, rd_ne', ne_eq, not_false_eq_true, rd_any, AVal.cells, setAt, List.set_cons_zero, List.set_cons_succ, cellsAt, List.getD_cons_zero, List.getD_cons_succ, Nat.zero_add, Nat.reduceAdd, lv_bool, lv_int, lv_str, lv_nilPtr, lv_ptr, lv_nilSlice, lv_slice, lv_nilFunc, lv_func, lv_nilIface, lv_iface, lv_nilMap, lv_agg, lv_tuple, allLive, Bool.and_true, decA, beq_self_eq_true]
      repeat (with_reducible refine And.intro ?_ ?_; · first | trivial | omega | (intro hg; simp only [Bool.and_eq_true, Bool.or_eq_true, Bool.not_eq_true', Bool.and_eq_false_iff, Bool.or_eq_false_iff, Bool.not_eq_false', decide_eq_true_eq, decide_eq_false_iff_not, eqNil] at hg; omega) )
      refine aOps_callV (V := .str (if m < 8 then namesL.getD m [] else [])) (by rfl) (by rfl) (c_name w₀ hN _ m hm) ?_
      simp (decide := true) only [aOps_nil, vOps_nil, fOps_nil, kOps_nil, ev, absV, absS, putD, Slots.put, Slots.get, Slots.keep, if_true, if_false, List.contains_cons, List.contains_nil, true_and, and_true, ↓ap_move, pop_move, ↓ap_binOp, pop_binOp, isNilC_tmp, cond_false, pBinX_str, pS_eql, ↓ag_move, agP, agQ_some, gv, nthDst, gKnown_bool, gKnown_cond, guardB_cond, guardB_bool_true, guardB_bool_false, cv_cv, implies_true, Bool.not_not, decide_true, decide_false, Bool.not_false, Bool.not_true, condV_true, condV_false, forall_const, false_implies, pickV_true, pickV_false, Bool.and_true, Bool.and_false, Bool.true_and, Bool.false_and, Bool.or_true, Bool.or_false, Bool.true_or, Bool.false_or, ↓ag_binOp, isNilC_int, cv_binl, cv_binr, cp_binl, cp_binr, pBinX_int, pI_geq, pBinX_beq, Tryd.underlying4, ↓ap_pick, pop_pick, pPick_bool, pickV_cond_l, pickV_cond_r, pickV_cond_rn, cp_nest1, cp_nest2, cp_nest3, cp_nest4, pickV_and, pickV_or, ↓ag_convert _ _ _ (es_int Tryd.underlying23 Tryd.underlying3), pop_convert, pConv_int Tryd.underlying23 Tryd.underlying3, cv_conv, cp_conv, ↓ag_max, pop_max, pMax_int, evs, List.map_cons, List.map_nil, pI_eql, rd_ne', ne_eq, not_false_eq_true, rd_any, AVal.cells, setAt, List.set_cons_zero, List.set_cons_succ, cellsAt, List.getD_cons_zero, List.getD_cons_succ, Nat.zero_add, Nat.reduceAdd, lv_bool, lv_int, lv_str, lv_nilPtr, lv_ptr, lv_nilSlice, lv_slice, lv_nilFunc, lv_func, lv_nilIface, lv_iface, lv_nilMap, lv_agg, lv_tuple, allLive, Bool.and_true, decA, beq_self_eq_true]
      try simp (disch := omega) only [wrap_i64, wrap_u8]
      repeat (with_reducible refine And.intro ?_ ?_; · first | trivial | omega | (intro hg; simp only [Bool.and_eq_true, Bool.or_eq_true, Bool.not_eq_true', Bool.and_eq_false_iff, Bool.or_eq_false_iff, Bool.not_eq_false', decide_eq_true_eq, decide_eq_false_iff_not, eqNil] at hg; omega) )
      first
      | (refine aOps_yes (by rfl) ?_; refine aOps_callV (V := .bool true) (by rfl) (by rfl) (c_lives w₀ ht _) ?_)
      | (refine aOps_no (by rfl) (by rfl) ?_)
      | (refine aOps_gcall (V := .bool true) (f := _) (cap := _) (xs := _) (by first | rfl | (simp (decide := true) only [gv, nthDst, Slots.get, if_true, if_false, gKnown_cond, gKnown_bool])) (fun hg => ⟨rfl, ?_⟩) (fun hg => c_lives w₀ ht _) ?_; · (simp (decide := true) only [gv, nthDst, putD, Slots.put, Slots.get, if_true, if_false, guardB_bool_true, guardB_bool_false, guardB_cond, Bool.not_not] at hg; simp (decide := true) only [evs, ev, putD, Slots.put, Slots.get, if_true, if_false, hg, condV_true, List.append_nil, List.map_cons, List.map_nil, absV, absS] <;> try rfl))
      simp (decide := true) only [aOps_nil, vOps_nil, fOps_nil, kOps_nil, ev, absV, absS, putD, Slots.put, Slots.get, Slots.keep, if_true, if_false, List.contains_cons, List.contains_nil, true_and, and_true, gv, nthDst, guardB_bool_true, guardB_bool_false, guardB_cond, ↓ap_pick, pop_pick, pPick_bool, pickV_cond_l, pickV_cond_r, pickV_cond_rn, cp_nest1, cp_nest2, cp_nest3, cp_nest4, pickV_and, pickV_or, ↓ap_assign, pop_assign, rd_ne', ne_eq, not_false_eq_true, rd_any, AVal.cells, setAt, List.set_cons_zero, List.set_cons_succ, cellsAt, List.getD_cons_zero, List.getD_cons_succ, Nat.zero_add, Nat.reduceAdd, lv_bool, lv_int, lv_str, lv_nilPtr, lv_ptr, lv_nilSlice, lv_slice, lv_nilFunc, lv_func, lv_nilIface, lv_iface, lv_nilMap, lv_agg, lv_tuple, allLive, Bool.and_true, decA, beq_self_eq_true]
      repeat (with_reducible refine And.intro ?_ ?_; · first | trivial | omega | (intro hg; simp only [Bool.and_eq_true, Bool.or_eq_true, Bool.not_eq_true', Bool.and_eq_false_iff, Bool.or_eq_false_iff, Bool.not_eq_false', decide_eq_true_eq, decide_eq_false_iff_not, eqNil] at hg; omega) )
      apply hK; clear hK K
      refine awp_ret ?_
      try simp only [thenA_ret, inBlockA_ret]
      refine retA_ret h (by repeat (first | exact Sub.refl _ | assumption | refine Sub.trans_set ?_ (by assumption))) (resPre_tmp (resPre_nil)) ?_
      simp (decide := true) only [aOps_nil, vOps_nil, fOps_nil, kOps_nil, ev, absV, absS, putD, Slots.put, Slots.get, Slots.keep, if_true, if_false, List.contains_cons, List.contains_nil, true_and, and_true, resOf_one, rd_ne', ne_eq, not_false_eq_true, rd_any, AVal.cells, setAt, List.set_cons_zero, List.set_cons_succ, cellsAt, List.getD_cons_zero, List.getD_cons_succ, Nat.zero_add, Nat.reduceAdd, lv_bool, lv_int, lv_str, lv_nilPtr, lv_ptr, lv_nilSlice, lv_slice, lv_nilFunc, lv_func, lv_nilIface, lv_iface, lv_nilMap, lv_agg, lv_tuple, allLive, Bool.and_true, decA]
      all_goals first | rfl | exact ⟨rfl, rfl⟩ | (simp (decide := true) only [if_true, if_false, *]; done) | (trace_state; fail)
end Go.Proofs.YteagjfcmhmmljaaDoor

/-
  An assertion layer over the model's wp, part W: names that promise a type; strings.Builder as a block of the call's own.
  Conditions: none. Nothing here is about a particular program.
-/
namespace Go.AM
open Go.RowKit (Below)

theorem HRel.setCell {w₀ w : World} {φ : PMap} {h : AHeap} (hr : HRel w₀ φ h w) {k : Nat} {b : Blk} {p : Place} (hk : h k = some b) (hp : φ k = some p) {o : Nat} {x : AVal} {v : Value}
    (hx : VR φ x v) (hs : x.scal = true) (hfit : o < b.cells.length) (hfrz : b.frz ≤ o) : HRel w₀ φ (h.set k ⟨b.cells.set o x, b.frz⟩) (w.setCell ⟨p.blk, p.off + o, none⟩ v) := by
  obtain ⟨q, hq, hq1, ok⟩ := hr.own k b hk
  have hpq : q = p := by rw [hp] at hq; exact (Option.some.inj hq).symm
  subst hpq
  obtain ⟨cs, e, lo, hi, h1, h2, h3, h4, h5, h6⟩ := ok.row
  have hgl : q.blk < w.heap.size := hr.lt k q hp
  rw [setCell_putRow w q.blk (q.off + o) cs e (lo, hi) h1 v]
  refine hr.write k b _ q hk hp (by simp [AM.World.putRow]) rfl rfl rfl (fun i hi => putRow_other w _ _ _ _ i hi) (fun cs' e' fr' h' => by rw [h1] at h'; cases h'; exact ⟨_, _, putRow_get w _ _ _ _ hgl⟩) ?_
  refine ⟨cs.setIfInBounds (q.off + o) v, e, lo, hi, putRow_get w _ _ _ _ hgl, by simp [h2], by simp [h3], by simp [h4], ?_, ?_⟩
  · have := take_drop_setAt cs.toList q.off b.cells.length o [v] (by simp; omega)
    simp only [setAt] at this
    simp only [Array.toList_setIfInBounds, List.length_set]
    rw [this]
    exact VRs_set h5 o hx
  · refine ⟨h6.1, fun i hi1 hi2 => ?_⟩
    have := h6.2 i hi1 hi2
    simpa using this

/-! ### A builder: two cells at the head of a block -/
structure Bld where
  used : Bool
  buf : Option (Nat × List UInt8)
def Bld.bytes (b : Bld) : List UInt8 := match b.buf with | none => [] | some (_, l) => l
def Bld.head (b : Bld) (k : Nat) : AVal := if b.used = true then .ptr (.own k) 0 else .nilPtr
def Bld.slice (b : Bld) : AVal := match b.buf with | none => .nilSlice | some (kb, l) => .slice (.own kb) 0 l.length (.grow 1)
def Bld.none : Bld := ⟨false, Option.none⟩
/-- Its buffer lies apart from all else, in a row of bytes (type e), and is not empty. -/
def Bld.ok (e : TypeId) (h : AHeap) (k : Nat) (b : Bld) : Prop := match b.buf with | Option.none => True | some (kb, l) => kb ≠ k ∧ h kb = Option.none ∧ tyOf kb = some e ∧ l ≠ []
theorem Bld.slice_nil {b : Bld} (hb : b.buf = Option.none) : b.slice = .nilSlice := by unfold Bld.slice; rw [hb]
theorem Bld.slice_some {b : Bld} {kb : Nat} {l : List UInt8} (hb : b.buf = some (kb, l)) : b.slice = .slice (.own kb) 0 l.length (.grow 1) := by unfold Bld.slice; rw [hb]
theorem Bld.bytes_nil {b : Bld} (hb : b.buf = Option.none) : b.bytes = [] := by unfold Bld.bytes; rw [hb]
theorem Bld.bytes_some {b : Bld} {kb : Nat} {l : List UInt8} (hb : b.buf = some (kb, l)) : b.bytes = l := by unfold Bld.bytes; rw [hb]
theorem Bld.len (b : Bld) : ∀ {P : Program} {t e : TypeId}, P.underlying t = some (.slice e) → pLen P t b.slice = ⟨True, .int .i64 b.bytes.length⟩ := fun ht => by
  cases hb : b.buf with
  | none => rw [Bld.slice_nil hb, Bld.bytes_nil hb]; simp [pLen, ht]
  | some q => rw [Bld.slice_some hb, Bld.bytes_some hb]; simp [pLen, ht]
section
variable {P : Program} {w₀ : World} {ops rest : List Oper} {s : Slots} {h : AHeap} {K : Slots → AHeap → Prop} {dst : Option Tmp} {ty : TypeId} {pos : String} {af : Array Edge}
end
end Go.AM

/-
  An assertion layer over the model's wp, part X: rows of cells that a call lays, writes and appends to.
  Conditions: none. Nothing here is about a particular program.
-/
namespace Go.AM

section
variable {P : Program} {w₀ : World} {ops rest : List Oper} {s : Slots} {h : AHeap} {K : Slots → AHeap → Prop} {dst : Option Tmp} {ty : TypeId} {pos : String} {af : Array Edge}
end

/-! ### A slice of the call's own that grows by append -/
/-- Nil, or a row in a block of its own: es cells an element. -/
structure Buf where
  blk : Nat
  cells : List AVal
def bufH (h : AHeap) : Option Buf → AHeap
  | none => h
  | some b => h.set b.blk ⟨b.cells, 0⟩
def bufOk (h : AHeap) (es : Nat) : Option Buf → Prop
  | none => True
  | some b => h b.blk = none ∧ b.cells.length % es = 0 ∧ allLive b.cells = true
theorem bufOk.sub {h h' : AHeap} {es : Nat} {b : Option Buf} (hb : bufOk h es b) (hs : Sub h' h) : bufOk h' es b := by
  cases b with
  | none => trivial
  | some b => exact ⟨hs.none hb.1, hb.2⟩
theorem Sub.buf {h : AHeap} {es : Nat} {b : Option Buf} (hb : bufOk h es b) : Sub h (bufH h b) := by
  cases b with
  | none => exact Sub.refl _
  | some b => exact Sub.set hb.1
section
variable {P : Program} {w₀ : World} {ops rest : List Oper} {s : Slots} {h : AHeap} {K : Slots → AHeap → Prop} {dst : Option Tmp} {ty : TypeId} {pos : String} {af : Array Edge}
end
end Go.AM

/-
  The arguments of the statements, opened: booleans, texts, integers, pairs of bytes; the wrap that hands on the world's shape.
  Conditions: none.
-/
namespace Go.Proofs.YteagjfcmhmmljaaDoor
open Go.AM
open Go.ChangeShapes Go.WideShapes Go.ChangeAt Go.RowKit
set_option maxRecDepth 100000

section
variable {H : Type} {enc : TypeId × Value → H} {W : World} {base : Nat} {v : Value} {x : DataW H × List MemPlace}
theorem u8_of {n : Int} (h : (Lit.int .u8 n).wf = true) : ∃ b : UInt8, (b.toNat : Int) = n := by
  have := wf_u8 h
  exact ⟨UInt8.ofNat n.toNat, by rw [UInt8.toNat_ofNat']; omega⟩

theorem arg_u8 {t : TypeId} (ht : Tryd.prog.underlying t = some (.int .u8)) (h : ∃ fuel, DataW.trod enc Tryd.prog W 0 (fun _ => true) true fuel t v.cells.toList = some x) (hv : Value.okWide Tryd.prog W .any base t v) :
    ∃ b : UInt8, VR (fun _ => none) (.int .u8 b.toNat) v := by
  obtain ⟨fuel, hf⟩ := h
  obtain ⟨n, hcs, _, hw⟩ := DataW.trod_int ht hf
  obtain ⟨b, hb⟩ := u8_of hw
  obtain ⟨m, rfl⟩ := okWide_int ht hv
  refine ⟨b, ?_⟩
  simp [Value.cells] at hcs
  simp only [VR, hb, hcs]

theorem arg_str {t : TypeId} (ht : Tryd.prog.underlying t = some .string) (h : ∃ fuel, DataW.trod enc Tryd.prog W 0 (fun _ => true) true fuel t v.cells.toList = some x) (hv : Value.okWide Tryd.prog W .any base t v) :
    ∃ s : List UInt8, VR (fun _ => none) (.str s) v ∧ s.length ≤ 9223372036854775807 := by
  obtain ⟨fuel, hf⟩ := h
  obtain ⟨s, rfl⟩ := okWide_string ht hv
  obtain ⟨s', h, hx, hs⟩ := DataW.trod_string ht hf
  simp [Value.cells] at h
  subst h
  exact ⟨s.data.toList, VR_strArg _ s, str_le hs⟩
end

end Go.Proofs.YteagjfcmhmmljaaDoor

/-
  What the world of a statement about the modes' words gives: the listed table, the listed words.
  Conditions: none.
-/
namespace Go.Proofs.YteagjfcmhmmljaaDoor
open Go.AM
open Go.ChangeShapes Go.WideShapes Go.ChangeAt Go.RowKit
set_option maxRecDepth 100000
/-- The listed table of powers of ten. -/
theorem tab_of {W : World} {rest : List (String × DataW Unit)} (h : laidMet Tryd.prog (("internal/strconv.uint64pow10", Rows.laid_internal_strconv_uint64pow10) :: rest) W) : Tab10 W :=
  Lib.tabIs_of_head (g := 1) (by kernel_rfl) (by kernel_rfl) (show Tryd.prog.underlying 110 = _ from Tryd.underlying110) Tryd.underlying95 (by kernel_rfl) (by kernel_rfl) h
/-- An array of texts that reads as the list holds its texts. -/
theorem cells_of_strs {H : Type} {enc : TypeId × Value → H} {P : Program} {w : World} {base : Nat} {sp : Nat → Bool} {held : Bool} {fuel : Nat} {t e : TypeId} {n : Nat} {cs : List Value} {ss : List (List UInt8)} {p : List MemPlace}
    (ht : P.underlying t = some (.array n e)) (he : P.underlying e = some .string) (hce : P.cellsOf e = 1)
    (h : DataW.trod enc P w base sp held fuel t cs = some (.agg (ss.map fun s => .lit (.string s)), p)) : ∀ i, i < n → cs[i]? = some (.string ⟨⟨ss.getD i []⟩⟩) := by
  obtain ⟨xs, m, _, hx, hl, hn, hc⟩ := DataW.trod_array ht h
  intro i hi
  have hxs : xs.map (·.1) = ss.map fun s => (DataW.lit (.string s) : DataW H) := by
    have := congrArg Prod.fst hx
    simpa using this.symm
  have h1 := hc i hi
  rw [hce, Nat.mul_one, List.getElem?_eq_getElem (by omega)] at h1
  obtain ⟨s, e1, e2, _⟩ := DataW.trod_string he h1
  have h2 : (xs.map (·.1))[i]? = some (DataW.lit (.string s.data.toList) : DataW H) := by
    rw [List.getElem?_map, List.getElem?_eq_getElem (by omega)]
    simp [e2]
  rw [hxs] at h2
  simp only [List.getElem?_map, Option.map_eq_some_iff, DataW.lit.injEq, Lit.string.injEq] at h2
  obtain ⟨z, hz, hzz⟩ := h2
  have h3 : cs[i]? = some (.string s) := by
    have := congrArg (·[0]?) e1
    simpa [List.getElem?_take, List.getElem?_drop] using this
  rw [h3, List.getD, hz]
  simp only [Option.getD_some, hzz]
theorem names_of {W : World} {rest : List (String × DataW Unit)} (h : laidMet Tryd.prog (("columnseven/roundings.names", Rows.laid_columnseven_roundings_names) :: rest) W) : NamesAt W := by
  obtain ⟨ps, ⟨g', t', cs, fuel, p, q, hg', ht', hvar, hd, _, _⟩, _⟩ := h
  obtain rfl := Option.some.inj ((show Tryd.prog.globalNamed "columnseven/roundings.names" = some 0 by kernel_rfl).symm.trans hg')
  have ht2 : some 30 = some t' := (show (Tryd.prog.globals[0]?).map (·.type) = some 30 by kernel_rfl).symm.trans ht'
  obtain rfl := Option.some.inj ht2
  intro i hi
  have hc := cells_of_strs (ss := namesL) Tryd.underlying30 Tryd.underlying9 (by kernel_rfl) hd i hi
  have := World.var?_cell (show Tryd.prog.globalNamed "columnseven/roundings.names" = some 0 by kernel_rfl) hvar i
  rw [this]
  simpa using hc
end Go.Proofs.YteagjfcmhmmljaaDoor

