/-
  Texts of this proof, joined: DdA, AmY, LnG, LnH, LnE, LnI, LwO, LwP, LwQ.
  Conditions: none.
-/
import Derived.Test.YthiiakghjoeikaaGreatDoorVe
import Derived.Test.YthiiakghjoeikaaGreatDoorVc
import Derived.Test.YthiiakghjoeikaaGreatDoorRows
import Derived.WalkKit
import Derived.ProofKit
import Derived.OpenShut
import Derived.ShutString
import Derived.ChangeOld
import Derived.Below
import Derived.Deep.Strs
import Derived.Lib.LaidTab
import Derived.MakeChecks
import Derived.Test.YthiiakghjoeikaaGreatDoorVd
import Derived.Stop.LaidErr
import Derived.FnData
set_option linter.unusedSimpArgs false
set_option linter.unnecessarySimpa false
set_option linter.unusedVariables false
/-
  The statements' big numbers: mul.
  Conditions: none.
-/
namespace Go.Proofs.YthiiakghjoeikaaGreatDoor
open Go.AM
open Go.Proofs
open Go.Dec
open Go.Lib (decDigits)
set_option maxRecDepth 100000

theorem leV_set (r : List Int) (i : Nat) (c : Int) (hi : i < r.length) : leV (r.set i c) = leV r + (c - r.getD i 0) * 10 ^ i := by
  unfold leV
  have e : (r.set i c).reverse = r.reverse.set (r.length - 1 - i) c := by
    apply List.ext_getElem?
    intro j
    by_cases hj : j < r.length
    · rw [List.getElem?_reverse (by rw [List.length_set]; exact hj), List.length_set, List.getElem?_set, List.getElem?_set]
      by_cases e : i = r.length - 1 - j
      · rw [if_pos e, if_pos (by omega), if_pos (by omega), if_pos (by rw [List.length_reverse]; omega)]
      · rw [if_neg e, if_neg (by omega), List.getElem?_reverse hj]
    · rw [List.getElem?_eq_none (by rw [List.length_reverse, List.length_set]; omega), List.getElem?_eq_none (by rw [List.length_set, List.length_reverse]; omega)]
  rw [e, valL_set _ _ _ (by rw [List.length_reverse]; omega), List.length_reverse]
  have e2 : r.length - 1 - (r.length - 1 - i) = i := by omega
  have e3 : r.reverse.getD (r.length - 1 - i) 0 = r.getD i 0 := by
    rw [List.getD, List.getElem?_reverse (by omega), e2]
    rfl
  rw [e2, e3]
theorem leV_rep (n : Nat) : leV (List.replicate n 0) = 0 := by
  have := leV_zeros n []
  rw [List.append_nil] at this
  rw [this]
  simp [leV, valL]
/-- The rows behind i rows and k columns of the table. -/
def rowV (x y : List Int) (i k : Nat) : Int := leV (x.take i) * leV y + x.getD i 0 * 10 ^ i * leV (y.take k)
theorem rowV_col (x y : List Int) (i k : Nat) : rowV x y i (k + 1) = rowV x y i k + x.getD i 0 * y.getD k 0 * 10 ^ (i + k) := by
  unfold rowV
  rw [leV_take, Int.mul_add, ← Int.add_assoc, Int.pow_add]
  congr 1
  generalize x.getD i 0 = a
  generalize y.getD k 0 = b
  generalize (10 : Int) ^ i = p
  generalize (10 : Int) ^ k = q
  simp only [Int.mul_comm, Int.mul_left_comm]
theorem rowV_row (x y : List Int) (i k : Nat) (hk : y.length ≤ k) : rowV x y i k = rowV x y (i + 1) 0 := by
  unfold rowV
  rw [List.take_of_length_le hk, leV_take, Int.add_mul]
  simp [leV, valL]
structure rowOk (x y r : List Int) (i k : Nat) : Prop where
  len : r.length = x.length + y.length
  val : leV r = rowV x y i k
  up : ∀ j : Nat, 0 ≤ r.getD j 0 ∧ r.getD j 0 ≤ 81 * ((i : Int) + 1)
  ahead : ∀ j : Nat, i + k ≤ j → r.getD j 0 ≤ 81 * (i : Int)
theorem rowOk.start (x y : List Int) : rowOk x y (List.replicate (x.length + y.length) 0) 0 0 := by
  have hz : ∀ n j : Nat, (List.replicate n (0 : Int)).getD j 0 = 0 := fun n j => by
    by_cases h : j < n
    · simp [List.getD, h]
    · simp [List.getD, h]
  refine ⟨by simp, by rw [leV_rep]; simp [rowV, leV, valL], fun j => ?_, fun j _ => ?_⟩
  · rw [hz]; omega
  · rw [hz]; omega
theorem rowOk.next {x y r : List Int} {i k : Nat} (h : rowOk x y r i k) (hx : digZ x) (hy : digZ y) (hi : i < x.length) (hk : k < y.length) : rowOk x y (r.set (i + k) (r.getD (i + k) 0 + x.getD i 0 * y.getD k 0)) i (k + 1) := by
  obtain ⟨a0, a9⟩ := hx.at i
  obtain ⟨b0, b9⟩ := hy.at k
  have p0 : 0 ≤ x.getD i 0 * y.getD k 0 := Int.mul_nonneg a0 b0
  have p1 : x.getD i 0 * y.getD k 0 ≤ 9 * 9 := Int.mul_le_mul a9 b9 b0 (by decide)
  have hl := h.len
  refine ⟨by rw [List.length_set]; exact hl, ?_, fun j => ?_, fun j hj => ?_⟩
  · rw [leV_set _ _ _ (by omega), h.val, rowV_col, show ∀ a b : Int, a + b - a = b by intros; omega]
  · by_cases e : i + k = j
    · subst e
      rw [getL_set_self _ _ _ _ (by omega)]
      have := h.ahead (i + k) (Nat.le_refl _)
      have := h.up (i + k)
      omega
    · rw [getL_set_ne _ _ _ _ _ e]
      exact h.up j
  · rw [getL_set_ne _ _ _ _ _ (by omega)]
    exact h.ahead j (by omega)
theorem rowOk.row {x y r : List Int} {i k : Nat} (h : rowOk x y r i k) (hk : y.length ≤ k) : rowOk x y r (i + 1) 0 := by
  refine ⟨h.len, by rw [h.val, rowV_row _ _ _ _ hk], fun j => ?_, fun j _ => ?_⟩
  · have := h.up j
    omega
  · have := h.up j
    omega

theorem bldS (x0 : Bool) (l : AM.Loc) (o n : Nat) (c : AM.Cap) : pBuild Tryz.prog 40 [(0, .bool x0), (1, .slice l o n c)] = ⟨True, .agg [.bool x0, .slice l o n c]⟩ := bld40_0_1 _ _ (of_eq_true (Sc_slice l o n c))
set_option maxHeartbeats 2000000 in
theorem c_mul (w₀ : World) (h : AHeap) (n1 n2 : Bool) (z1 z2 : AVal) (x y : List Int) (hz1 : HoldsZ h z1 x) (hz2 : HoldsZ h z2 y) (hx : digZ x) (hy : digZ y) (hN : x.length + y.length ≤ 10000) :
    ACall Tryz.prog w₀ 22 [.agg [.bool n1, z1], .agg [.bool n2, z2]] h (fun v h' => (∃ z o, v = .agg [.bool (n1 != n2), z] ∧ HoldsZ h' z o ∧ digZ o ∧ leV o = leV x * leV y ∧ o.length ≤ x.length + y.length) ∧ Sub h h') := by
  have hl1 := hz1.live
  have hl2 := hz2.live
  obtain ⟨bx0, bx1⟩ := leV_bound x hx
  obtain ⟨by0, by1⟩ := leV_bound y hy
  have eN : ((x.length : Int) + (y.length : Int)).toNat = x.length + y.length := by omega
  refine acall_intro (n := 58) (rs := [.cell 4 40]) Tryz.func22 rfl rfl rfl rfl (Nat.le_of_ble_eq_true rfl) ?_
  simp only [initSlots]
  -- region 0  law.go:115
  refine awp_rseq [2, 3, 4] (by rfl) fun K hK => ?_
  refine aOps_box (by rfl) (by rfl) (by rfl) fun k0q0 hk0q0 => ?_
  try have hf_0q0 : h k0q0 = none := by first | assumption | (simp only [AHeap.set_none] at hk0q0; simp only [hk0q0])
  skip
  refine aOps_box (by rfl) (by rfl) (by rfl) fun k0q1 hk0q1 => ?_
  have ne_0q1_0q0 : k0q1 ≠ k0q0 := by simp only [AHeap.set_none] at hk0q1; simp only [hk0q1, ne_eq, not_false_eq_true]
  try have hf_0q1 : h k0q1 = none := by first | assumption | (simp only [AHeap.set_none] at hk0q1; simp only [hk0q1])
  skip
  refine aOps_alloc ze40 (cs := [.bool false, .nilSlice]) (by rfl) fun k0q2 hk0q2 => ?_
  have ne_0q2_0q0 : k0q2 ≠ k0q0 := by simp only [AHeap.set_none] at hk0q2; simp only [hk0q2, ne_eq, not_false_eq_true]
  have ne_0q2_0q1 : k0q2 ≠ k0q1 := by simp only [AHeap.set_none] at hk0q2; simp only [hk0q2, ne_eq, not_false_eq_true]
  try have hf_0q2 : h k0q2 = none := by first | assumption | (simp only [AHeap.set_none] at hk0q2; simp only [hk0q2])
  simp (decide := true) only [aOps_nil, ev, putD, Slots.put, Slots.get, Slots.keep, if_true, if_false, AVal.cells, Nat.zero_add]
  repeat (with_reducible refine And.intro ?_ ?_; · first | trivial | omega | (intro hg; simp only [Bool.and_eq_true, Bool.or_eq_true, Bool.not_eq_true', Bool.and_eq_false_iff, Bool.or_eq_false_iff, Bool.not_eq_false', decide_eq_true_eq, decide_eq_false_iff_not, eqNil] at hg; omega) | (simp only [List.length_append, List.length_map, List.length_range, List.length_replicate, List.length_take, List.length_drop, List.length_cons, List.length_nil, List.length_set, List.length_reverse]; omega))
  apply hK; clear hK K
  -- region 1  law.go:116
  refine awp_dseq_F 15 [] [2, 3, 4, 5] mixed (by kernel_rfl) (by rfl) fun K hK => ?_
  simp only [List.take_succ_cons, List.take_zero, List.drop_succ_cons, List.drop_zero]
  simp (decide := true) only [ev, putD, Slots.put, Slots.get, if_true, if_false, true_and, ↓fp_fieldAddr, pop_fieldAddr, fa40_0, ↓fp_load, pop_load, pLoad_one ag4, ↓fp_binOp, pop_binOp, isNilC_tmp, cond_false, pBinX_bne, Tryz.underlying4, fa40_1, pLoad_one ag38, ↓fp_len, pop_len, pBinX_int, pI_add, rd_ne', ne_eq, not_false_eq_true, ne_0q1_0q0.symm, ne_0q2_0q0.symm, ne_0q2_0q1.symm, rd_any, List.getD_cons_zero, List.getD_cons_succ, Nat.zero_add, lv_bool, hl1, hl2, hz1.len Tryz.underlying38, hz2.len Tryz.underlying38]
  try simp (disch := omega) only [wrap_i64]
  repeat (with_reducible refine And.intro ?_ ?_; · first | trivial | omega | (intro hg; simp only [Bool.and_eq_true, Bool.or_eq_true, Bool.not_eq_true', Bool.and_eq_false_iff, Bool.or_eq_false_iff, Bool.not_eq_false', decide_eq_true_eq, decide_eq_false_iff_not, eqNil] at hg; omega) | (simp only [List.length_append, List.length_map, List.length_range, List.length_replicate, List.length_take, List.length_drop, List.length_cons, List.length_nil, List.length_set, List.length_reverse]; omega))
  refine fOps_lay (by rfl) ?_
  refine aOps_makeInts Tryz.underlying38 sz3 by3 ze3 (by rfl) (by rfl) (by omega) (by omega) fun k1 hk1 => ?_
  have ne_1_0q0 : k1 ≠ k0q0 := by simp only [AHeap.set_none] at hk1; simp only [hk1, ne_eq, not_false_eq_true]
  have ne_1_0q1 : k1 ≠ k0q1 := by simp only [AHeap.set_none] at hk1; simp only [hk1, ne_eq, not_false_eq_true]
  have ne_1_0q2 : k1 ≠ k0q2 := by simp only [AHeap.set_none] at hk1; simp only [hk1, ne_eq, not_false_eq_true]
  try have hf_1 : h k1 = none := by first | assumption | (simp only [AHeap.set_none] at hk1; simp only [hk1])
  rw [aOps_nil]
  simp (decide := true) only [ev, absV, absS, putD, Slots.put, Slots.get, if_true, if_false, true_and, ↓fp_build, ↓pop_buildL, bld40_0_1, evP, List.map_cons, List.map_nil, Sc_slice, eN]
  repeat (with_reducible refine And.intro ?_ ?_; · first | trivial | omega | (intro hg; simp only [Bool.and_eq_true, Bool.or_eq_true, Bool.not_eq_true', Bool.and_eq_false_iff, Bool.or_eq_false_iff, Bool.not_eq_false', decide_eq_true_eq, decide_eq_false_iff_not, eqNil] at hg; omega) | (simp only [List.length_append, List.length_map, List.length_range, List.length_replicate, List.length_take, List.length_drop, List.length_cons, List.length_nil, List.length_set, List.length_reverse]; omega))
  refine fOps_lay (by rfl) ?_
  refine aOps_alloc ze40 (cs := [.bool false, .nilSlice]) (by rfl) fun k1q14 hk1q14 => ?_
  have ne_1q14_0q0 : k1q14 ≠ k0q0 := by simp only [AHeap.set_none] at hk1q14; simp only [hk1q14, ne_eq, not_false_eq_true]
  have ne_1q14_0q1 : k1q14 ≠ k0q1 := by simp only [AHeap.set_none] at hk1q14; simp only [hk1q14, ne_eq, not_false_eq_true]
  have ne_1q14_0q2 : k1q14 ≠ k0q2 := by simp only [AHeap.set_none] at hk1q14; simp only [hk1q14, ne_eq, not_false_eq_true]
  have ne_1q14_1 : k1q14 ≠ k1 := by simp only [AHeap.set_none] at hk1q14; simp only [hk1q14, ne_eq, not_false_eq_true]
  try have hf_1q14 : h k1q14 = none := by first | assumption | (simp only [AHeap.set_none] at hk1q14; simp only [hk1q14])
  rw [aOps_nil]
  repeat (with_reducible refine And.intro ?_ ?_; · first | trivial | omega | (intro hg; simp only [Bool.and_eq_true, Bool.or_eq_true, Bool.not_eq_true', Bool.and_eq_false_iff, Bool.or_eq_false_iff, Bool.not_eq_false', decide_eq_true_eq, decide_eq_false_iff_not, eqNil] at hg; omega) | (simp only [List.length_append, List.length_map, List.length_range, List.length_replicate, List.length_take, List.length_drop, List.length_cons, List.length_nil, List.length_set, List.length_reverse]; omega))
  try simp only [fOps_nil]
  refine aOps_store (by rfl) (by rfl) (by repeat (first | exact AHeap.set_same _ _ _ | assumption | refine (AHeap.set_ne _ _ (by first | assumption | exact Ne.symm (by assumption))).trans ?_)) sz40 (by rfl) (by rfl) (by first | exact Nat.le_refl _ | decide | (simp; done) | (simp; omega)) (Nat.zero_le _) (by rfl) ?_
  simp only [AHeap.set_set, AVal.cells]
  simp (decide := true) only [aOps_nil, ev, putD, Slots.put, Slots.get, Slots.keep, if_true, if_false, setAt, List.set_cons_zero, List.set_cons_succ, Nat.zero_add]
  repeat (with_reducible refine And.intro ?_ ?_; · first | trivial | omega | (intro hg; simp only [Bool.and_eq_true, Bool.or_eq_true, Bool.not_eq_true', Bool.and_eq_false_iff, Bool.or_eq_false_iff, Bool.not_eq_false', decide_eq_true_eq, decide_eq_false_iff_not, eqNil] at hg; omega) | (simp only [List.length_append, List.length_map, List.length_range, List.length_replicate, List.length_take, List.length_drop, List.length_cons, List.length_nil, List.length_set, List.length_reverse]; omega))
  apply hK; clear hK K
  refine awp_seq ?_
  -- region 2  law.go:117
  refine awp_rseq [2, 3, 4, 5, 6] (by rfl) fun K hK => ?_
  simp (decide := true) only [aOps_nil, ev, absV, absS, putD, Slots.put, Slots.keep, if_true, if_false, true_and, ↓ap_assign, pop_assign]
  repeat (with_reducible refine And.intro ?_ ?_; · first | trivial | omega | (intro hg; simp only [Bool.and_eq_true, Bool.or_eq_true, Bool.not_eq_true', Bool.and_eq_false_iff, Bool.or_eq_false_iff, Bool.not_eq_false', decide_eq_true_eq, decide_eq_false_iff_not, eqNil] at hg; omega) | (simp only [List.length_append, List.length_map, List.length_range, List.length_replicate, List.length_take, List.length_drop, List.length_cons, List.length_nil, List.length_set, List.length_reverse]; omega))
  apply hK; clear hK K
  refine awp_block ?_
  refine awp_loopG [2, 3, 4, 5, 6] (fun g : Nat × List Int => [(2, .ptr (.own k0q0) 0), (3, .ptr (.own k0q1) 0), (4, .ptr (.own k0q2) 0), (5, .ptr (.own k1q14) 0), (6, .int .i64 g.1)]) (fun g : Nat × List Int => (((((h.set k0q0 ⟨[.bool n1, z1], 0⟩).set k0q1 ⟨[.bool n2, z2], 0⟩).set k0q2 ⟨[.bool false, .nilSlice], 0⟩).set k1 ⟨intCells g.2, 0⟩).set k1q14 ⟨[.bool (n1 != n2), .slice (.own k1) 0 (x.length + y.length) (.exact (x.length + y.length))], 0⟩)) (fun g : Nat × List Int => rowOk x y g.2 g.1 0 ∧ g.1 ≤ x.length) (fun g : Nat × List Int => x.length - g.1) (0, List.replicate (x.length + y.length) 0) (by rfl) (Sub.refl _) ⟨rowOk.start x y, Nat.zero_le _⟩ ?_
  rintro ⟨i, r⟩ ⟨hr, hi⟩
  simp only at hr hi ⊢
  refine awp_seq ?_
  -- region 3  law.go:117
  refine awp_rseq [2, 3, 4, 5, 6, 26] (by rfl) fun K hK => ?_
  simp (decide := true) only [aOps_nil, ev, putD, Slots.put, Slots.get, Slots.keep, if_true, if_false, true_and, ↓ap_move, pop_move, ↓ap_fieldAddr, pop_fieldAddr, fa40_1, ↓ap_loadL, apL_mk, pLoad_one ag38, ↓ap_len, pop_len, ↓ap_binOp, pop_binOp, isNilC_tmp, cond_false, pBinX_int, pI_lss, rd_ne', ne_eq, not_false_eq_true, ne_0q1_0q0.symm, ne_0q2_0q0.symm, ne_1_0q0.symm, ne_1q14_0q0.symm, rd_any, List.getD_cons_zero, List.getD_cons_succ, Nat.zero_add, hl1, hz1.len Tryz.underlying38]
  repeat (with_reducible refine And.intro ?_ ?_; · first | trivial | omega | (intro hg; simp only [Bool.and_eq_true, Bool.or_eq_true, Bool.not_eq_true', Bool.and_eq_false_iff, Bool.or_eq_false_iff, Bool.not_eq_false', decide_eq_true_eq, decide_eq_false_iff_not, eqNil] at hg; omega) | (simp only [List.length_append, List.length_map, List.length_range, List.length_replicate, List.length_take, List.length_drop, List.length_cons, List.length_nil, List.length_set, List.length_reverse]; omega))
  apply hK; clear hK K
  refine awp_cond (b := _) rfl (fun hb1 => ?_) (fun hb1 => ?_)
  · try simp only [decide_eq_true_eq] at hb1
    obtain ⟨kx, cx, ez1, hkx⟩ := hz1.resolve_left (fun e => by rw [e.2] at hb1; simp at hb1; omega)
    have nx0 : kx ≠ k0q0 := fun e => by rw [e, hf_0q0] at hkx; cases hkx
    have nx1 : kx ≠ k0q1 := fun e => by rw [e, hf_0q1] at hkx; cases hkx
    have nx2 : kx ≠ k0q2 := fun e => by rw [e, hf_0q2] at hkx; cases hkx
    have nx3 : kx ≠ k1 := fun e => by rw [e, hf_1] at hkx; cases hkx
    have nx4 : kx ≠ k1q14 := fun e => by rw [e, hf_1q14] at hkx; cases hkx
    have ix : ∀ v, pIndexAddr Tryz.prog 38 z1 v = pIndexAddr Tryz.prog 38 (.slice (.own kx) 0 x.length cx) v := fun v => by rw [ez1]
    have gx : (intCells x).getD i .dead = .int .i64 (x.getD i 0) := intCells_getD (by omega)
    refine awp_skip ?_
    change Awp _ _ _ _ _ _ _
    refine awp_seq ?_
    refine awp_block ?_
    -- region 5  law.go:118
    refine awp_rseq [2, 3, 4, 5, 6, 7] (by rfl) fun K hK => ?_
    simp (decide := true) only [aOps_nil, ev, absV, absS, putD, Slots.put, Slots.keep, if_true, if_false, true_and, ↓ap_assign, pop_assign]
    repeat (with_reducible refine And.intro ?_ ?_; · first | trivial | omega | (intro hg; simp only [Bool.and_eq_true, Bool.or_eq_true, Bool.not_eq_true', Bool.and_eq_false_iff, Bool.or_eq_false_iff, Bool.not_eq_false', decide_eq_true_eq, decide_eq_false_iff_not, eqNil] at hg; omega) | (simp only [List.length_append, List.length_map, List.length_range, List.length_replicate, List.length_take, List.length_drop, List.length_cons, List.length_nil, List.length_set, List.length_reverse]; omega))
    apply hK; clear hK K
    refine awp_block ?_
    refine awp_loopG [2, 3, 4, 5, 6, 7] (fun g : Nat × List Int => [(2, .ptr (.own k0q0) 0), (3, .ptr (.own k0q1) 0), (4, .ptr (.own k0q2) 0), (5, .ptr (.own k1q14) 0), (6, .int .i64 i), (7, .int .i64 g.1)]) (fun g : Nat × List Int => (((((h.set k0q0 ⟨[.bool n1, z1], 0⟩).set k0q1 ⟨[.bool n2, z2], 0⟩).set k0q2 ⟨[.bool false, .nilSlice], 0⟩).set k1 ⟨intCells g.2, 0⟩).set k1q14 ⟨[.bool (n1 != n2), .slice (.own k1) 0 (x.length + y.length) (.exact (x.length + y.length))], 0⟩)) (fun g : Nat × List Int => rowOk x y g.2 i g.1 ∧ g.1 ≤ y.length) (fun g : Nat × List Int => y.length - g.1) (0, r) (by rfl) (Sub.refl _) ⟨hr, Nat.zero_le _⟩ ?_
    clear hr
    rintro ⟨k, r⟩ ⟨hr, hk⟩
    simp only at hr hk ⊢
    refine awp_seq ?_
    -- region 6  law.go:118
    refine awp_rseq [2, 3, 4, 5, 6, 7, 33] (by rfl) fun K hK => ?_
    simp (decide := true) only [aOps_nil, ev, putD, Slots.put, Slots.get, Slots.keep, if_true, if_false, true_and, ↓ap_move, pop_move, ↓ap_fieldAddr, pop_fieldAddr, fa40_1, ↓ap_loadL, apL_mk, pLoad_one ag38, ↓ap_len, pop_len, ↓ap_binOp, pop_binOp, isNilC_tmp, cond_false, pBinX_int, pI_lss, rd_ne', ne_eq, not_false_eq_true, ne_0q2_0q1.symm, ne_1_0q1.symm, ne_1q14_0q1.symm, rd_any, List.getD_cons_zero, List.getD_cons_succ, Nat.zero_add, hl2, hz2.len Tryz.underlying38]
    repeat (with_reducible refine And.intro ?_ ?_; · first | trivial | omega | (intro hg; simp only [Bool.and_eq_true, Bool.or_eq_true, Bool.not_eq_true', Bool.and_eq_false_iff, Bool.or_eq_false_iff, Bool.not_eq_false', decide_eq_true_eq, decide_eq_false_iff_not, eqNil] at hg; omega) | (simp only [List.length_append, List.length_map, List.length_range, List.length_replicate, List.length_take, List.length_drop, List.length_cons, List.length_nil, List.length_set, List.length_reverse]; omega))
    apply hK; clear hK K
    refine awp_cond (b := _) rfl (fun hb2 => ?_) (fun hb2 => ?_)
    · try simp only [decide_eq_true_eq] at hb2
      obtain ⟨ky, cy, ez2, hky⟩ := hz2.resolve_left (fun e => by rw [e.2] at hb2; simp at hb2; omega)
      have ny0 : ky ≠ k0q0 := fun e => by rw [e, hf_0q0] at hky; cases hky
      have ny1 : ky ≠ k0q1 := fun e => by rw [e, hf_0q1] at hky; cases hky
      have ny2 : ky ≠ k0q2 := fun e => by rw [e, hf_0q2] at hky; cases hky
      have ny3 : ky ≠ k1 := fun e => by rw [e, hf_1] at hky; cases hky
      have ny4 : ky ≠ k1q14 := fun e => by rw [e, hf_1q14] at hky; cases hky
      have iy : ∀ v, pIndexAddr Tryz.prog 38 z2 v = pIndexAddr Tryz.prog 38 (.slice (.own ky) 0 y.length cy) v := fun v => by rw [ez2]
      have gy : (intCells y).getD k .dead = .int .i64 (y.getD k 0) := intCells_getD (by omega)
      have hrl := hr.len
      have gr : (intCells r).getD (i + k) .dead = .int .i64 (r.getD (i + k) 0) := intCells_getD (by omega)
      have eik : ((i : Int) + (k : Int)).toNat = i + k := by omega
      obtain ⟨a0, a9⟩ := hx.at i
      obtain ⟨b0, b9⟩ := hy.at k
      have p0 : 0 ≤ x.getD i 0 * y.getD k 0 := Int.mul_nonneg a0 b0
      have p1 : x.getD i 0 * y.getD k 0 ≤ 9 * 9 := Int.mul_le_mul a9 b9 b0 (by decide)
      have hup := hr.up (i + k)
      have exy : IntKind.i64.wrap (x.getD i 0 * y.getD k 0) = x.getD i 0 * y.getD k 0 := wrap_i64 (by omega) (by omega)
      have exs : IntKind.i64.wrap (r.getD (i + k) 0 + x.getD i 0 * y.getD k 0) = r.getD (i + k) 0 + x.getD i 0 * y.getD k 0 := wrap_i64 (by omega) (by omega)
      refine awp_skip ?_
      change Awp _ _ _ _ _ _ _
      refine awp_seq ?_
      refine awp_block ?_
      -- region 8  law.go:119
      refine awp_draw_tail 20 mixed (by kernel_rfl) (by rfl) (by rfl) ?_
      simp (decide := true) only [ev, putD, Slots.put, Slots.get, if_true, if_false, true_and, ↓ap_fieldAddr, pop_fieldAddr, fa40_1, ↓ap_loadL, apL_mk, pLoad_one ag38, ↓ap_move, pop_move, ↓ap_binOp, pop_binOp, isNilC_tmp, cond_false, pBinX_int, pI_add, rd_any, List.getD_cons_zero, List.getD_cons_succ, Nat.zero_add, lv_slice, Nat.zero_add]
      try simp (disch := omega) only [wrap_i64]
      try simp (decide := true) only [ev, putD, Slots.put, Slots.get, if_true, if_false, true_and, ↓ap_indexAddrL, apL_mk, pIndexAddr_slice Tryz.underlying38 sz3, ↓ap_loadL, pLoad_one ag3, ↓ap_fieldAddr, pop_fieldAddr, fa40_1, pLoad_one ag38, ↓ap_move, pop_move, ↓ap_binOp, pop_binOp, isNilC_tmp, cond_false, pBinX_int, pI_mul, pI_add, rd_ne', ne_eq, not_false_eq_true, ne_0q1_0q0.symm, ne_0q2_0q0.symm, ne_0q2_0q1.symm, ne_1_0q0.symm, ne_1_0q1.symm, ne_1q14_0q0.symm, ne_1q14_0q1.symm, ne_1q14_1.symm, rd_any, List.getD_cons_zero, List.getD_cons_succ, Nat.zero_add, lv_int, hl1, hl2, ix, iy, eik, gx, gy, gr, exy, exs, Int.toNat_natCast, Nat.mul_one, Nat.zero_add, nx0, nx1, nx2, nx3, nx4, ny0, ny1, ny2, ny3, ny4, rd_own w₀ hkx, rd_own w₀ hky]
      try simp (disch := omega) only [wrap_i64, wrap_u8]
      try simp (decide := true) only [aOps_nil, vOps_nil, fOps_nil, kOps_nil, ev, absV, absS, putD, Slots.put, Slots.get, Slots.keep, if_true, if_false, List.contains_cons, List.contains_nil, true_and, and_true, ↓ap_indexAddrL, apL_mk, pIndexAddr_slice Tryz.underlying38 sz3, rd_ne', ne_eq, not_false_eq_true, ne_0q1_0q0, ne_0q1_0q0.symm, ne_0q2_0q0, ne_0q2_0q0.symm, ne_0q2_0q1, ne_0q2_0q1.symm, ne_1_0q0, ne_1_0q0.symm, ne_1_0q1, ne_1_0q1.symm, ne_1_0q2, ne_1_0q2.symm, ne_1q14_0q0, ne_1q14_0q0.symm, ne_1q14_0q1, ne_1q14_0q1.symm, ne_1q14_0q2, ne_1q14_0q2.symm, ne_1q14_1, ne_1q14_1.symm, rd_any, AVal.cells, setAt, List.set_cons_zero, List.set_cons_succ, cellsAt, List.getD_cons_zero, List.getD_cons_succ, Nat.zero_add, Nat.reduceAdd, lv_bool, lv_int, lv_str, lv_nilPtr, lv_ptr, lv_nilSlice, lv_slice, lv_nilFunc, lv_func, lv_nilIface, lv_iface, lv_nilMap, lv_agg, lv_tuple, allLive, Bool.and_true, decA, hl1, hl2, hz1.len Tryz.underlying38, hz2.len Tryz.underlying38, ix, iy, eik, gx, gy, gr, exy, exs, Int.toNat_natCast, Nat.mul_one, Nat.zero_add, nx0, nx1, nx2, nx3, nx4, ny0, ny1, ny2, ny3, ny4, rd_own w₀ hkx, rd_own w₀ hky]
      repeat (with_reducible refine And.intro ?_ ?_; · first | trivial | omega | (intro hg; simp only [Bool.and_eq_true, Bool.or_eq_true, Bool.not_eq_true', Bool.and_eq_false_iff, Bool.or_eq_false_iff, Bool.not_eq_false', decide_eq_true_eq, decide_eq_false_iff_not, eqNil] at hg; omega) | (simp only [List.length_append, List.length_map, List.length_range, List.length_replicate, List.length_take, List.length_drop, List.length_cons, List.length_nil, List.length_set, List.length_reverse]; omega))
      refine aOps_store (v := .int .i64 (r.getD (i + k) 0 + x.getD i 0 * y.getD k 0)) (by rfl) (by rfl) ((AHeap.set_ne _ _ ne_1q14_1.symm).trans (AHeap.set_same _ _ _)) sz3 (by rfl) (by rfl) (by rw [intCells_length]; omega) (Nat.zero_le _) (by rfl) ?_
      simp only [AVal.cells]
      rw [setAt_intCells, AHeap.set_comm _ _ _ ne_1q14_1.symm, AHeap.set_set]
      simp (decide := true) only [aOps_nil, putD]
      repeat (with_reducible refine And.intro ?_ ?_; · first | trivial | omega | (intro hg; simp only [Bool.and_eq_true, Bool.or_eq_true, Bool.not_eq_true', Bool.and_eq_false_iff, Bool.or_eq_false_iff, Bool.not_eq_false', decide_eq_true_eq, decide_eq_false_iff_not, eqNil] at hg; omega) | (simp only [List.length_append, List.length_map, List.length_range, List.length_replicate, List.length_take, List.length_drop, List.length_cons, List.length_nil, List.length_set, List.length_reverse]; omega))
      change Awp _ _ _ _ _ _ _
      -- region 7  law.go:118
      refine awp_r [2, 3, 4, 5, 6, 7] (by rfl) ?_
      simp (decide := true) only [aOps_nil, ev, absV, absS, putD, Slots.put, Slots.get, Slots.keep, if_true, if_false, true_and, ↓ap_move, pop_move, ↓ap_binOp, pop_binOp, isNilC_int, cond_false, pBinX_int, pI_add, ↓ap_assign, pop_assign]
      try simp (disch := omega) only [wrap_i64]
      repeat (with_reducible refine And.intro ?_ ?_; · first | trivial | omega | (intro hg; simp only [Bool.and_eq_true, Bool.or_eq_true, Bool.not_eq_true', Bool.and_eq_false_iff, Bool.or_eq_false_iff, Bool.not_eq_false', decide_eq_true_eq, decide_eq_false_iff_not, eqNil] at hg; omega) | (simp only [List.length_append, List.length_map, List.length_range, List.length_replicate, List.length_take, List.length_drop, List.length_cons, List.length_nil, List.length_set, List.length_reverse]; omega))
      try simp only [thenA_normal]
      refine ⟨(k + 1, r.set (i + k) (r.getD (i + k) 0 + x.getD i 0 * y.getD k 0)), rfl, ?_, ⟨hr.next hx hy (by omega) (by omega), by simp only; omega⟩, by simp only; omega⟩
      exact Sub.refl _
    · try simp only [decide_eq_false_iff_not] at hb2
      refine awp_exit ?_
      change Awp _ _ _ _ _ _ _
      -- region 4  law.go:117
      refine awp_r [2, 3, 4, 5, 6] (by rfl) ?_
      simp (decide := true) only [aOps_nil, ev, absV, absS, putD, Slots.put, Slots.get, Slots.keep, if_true, if_false, true_and, ↓ap_move, pop_move, ↓ap_binOp, pop_binOp, isNilC_int, cond_false, pBinX_int, pI_add, ↓ap_assign, pop_assign]
      try simp (disch := omega) only [wrap_i64]
      repeat (with_reducible refine And.intro ?_ ?_; · first | trivial | omega | (intro hg; simp only [Bool.and_eq_true, Bool.or_eq_true, Bool.not_eq_true', Bool.and_eq_false_iff, Bool.or_eq_false_iff, Bool.not_eq_false', decide_eq_true_eq, decide_eq_false_iff_not, eqNil] at hg; omega) | (simp only [List.length_append, List.length_map, List.length_range, List.length_replicate, List.length_take, List.length_drop, List.length_cons, List.length_nil, List.length_set, List.length_reverse]; omega))
      try simp only [thenA_normal]
      refine ⟨(i + 1, r), rfl, Sub.refl _, ⟨hr.row (by omega), by simp only; omega⟩, by simp only; omega⟩
  · try simp only [decide_eq_false_iff_not] at hb1
    have hv : leV r = leV x * leV y := by
      rw [hr.val, show i = x.length by omega]
      unfold rowV
      rw [List.take_of_length_le (Nat.le_refl _)]
      simp [leV, valL]
    have hvl : leV r < 10 ^ (x.length + y.length) := by
      rw [hv, Int.pow_add]
      have h1 : leV x * leV y ≤ leV x * 10 ^ y.length := Int.mul_le_mul_of_nonneg_left (by omega) bx0
      have h2 : leV x * 10 ^ y.length < 10 ^ x.length * 10 ^ y.length := Int.mul_lt_mul_of_pos_right bx1 (Int.pow_pos (by decide))
      omega
    have hsm : smallZ 1000000 r := fun j => by
      have := hr.up j
      omega
    refine awp_exit ?_
    change Awp _ _ _ _ _ _ _
    -- region 9  law.go:122
    refine awp_rseq [4] (by rfl) fun K hK => ?_
    simp (decide := true) only [ev, putD, Slots.put, Slots.get, if_true, if_false, true_and, ↓ap_loadL, apL_mk, pLoad_agg ag40 sz40, rd_any, cellsAt, List.getD_cons_zero, List.getD_cons_succ, Nat.zero_add, lv_bool, lv_slice, allLive, Bool.and_true]
    repeat (with_reducible refine And.intro ?_ ?_; · first | trivial | omega | (intro hg; simp only [Bool.and_eq_true, Bool.or_eq_true, Bool.not_eq_true', Bool.and_eq_false_iff, Bool.or_eq_false_iff, Bool.not_eq_false', decide_eq_true_eq, decide_eq_false_iff_not, eqNil] at hg; omega) | (simp only [List.length_append, List.length_map, List.length_range, List.length_replicate, List.length_take, List.length_drop, List.length_cons, List.length_nil, List.length_set, List.length_reverse]; omega))
    refine aOps_call (by rfl) (by rfl) (c_settled w₀ _ (n1 != n2) (.slice (.own k1) 0 (x.length + y.length) (.exact (x.length + y.length))) r (.inr ⟨k1, .exact (x.length + y.length), by rw [hr.len], (AHeap.set_ne _ _ ne_1q14_1.symm).trans (AHeap.set_same _ _ _)⟩) 1000000 (by decide) (by decide) hsm (x.length + y.length) (by rw [hr.len]; exact Nat.le_refl _) (by omega) hvl (by rw [hv]; exact Int.mul_nonneg bx0 by0)) fun x9q1 h9q1 hx9q1 => ?_
    obtain ⟨⟨z', o, rfl, hzo, hdo, hvo, hlo⟩, hsub⟩ := hx9q1
    have hlo1 := hzo.live
    refine aOps_store (v := .agg [.bool (n1 != n2), z']) (by rfl) (by rfl) (hsub _ _ ((AHeap.set_ne _ _ ne_1q14_0q2.symm).trans ((AHeap.set_ne _ _ ne_1_0q2.symm).trans (AHeap.set_same _ _ _)))) sz40 (by rfl) (by rfl) (Nat.le_refl _) (Nat.zero_le _) (scal_big hzo.scal) ?_
    simp only [setAt, AVal.cells, List.length_nil, List.set_cons_zero, List.set_cons_succ, Nat.zero_add]
    simp (decide := true) only [aOps_nil, putD, Slots.put, Slots.keep, if_true, if_false]
    repeat (with_reducible refine And.intro ?_ ?_; · first | trivial | omega | (intro hg; simp only [Bool.and_eq_true, Bool.or_eq_true, Bool.not_eq_true', Bool.and_eq_false_iff, Bool.or_eq_false_iff, Bool.not_eq_false', decide_eq_true_eq, decide_eq_false_iff_not, eqNil] at hg; omega) | (simp only [List.length_append, List.length_map, List.length_range, List.length_replicate, List.length_take, List.length_drop, List.length_cons, List.length_nil, List.length_set, List.length_reverse]; omega))
    apply hK; clear hK K
    refine awp_ret ?_
    try simp only [thenA_ret, inBlockA_ret]
    refine retA_retE (?_) ?_
    · simp (decide := true) only [resPre, resV_cell, Slots.get, if_true, and_true, resV_cell, pLoad_agg ag40 sz40, rd_set, cellsAt, List.getD_cons_zero, List.getD_cons_succ, Nat.zero_add, lv_bool, allLive, Bool.and_true, Bool.true_and, cellsAt, List.getD_cons_zero, List.getD_cons_succ, Nat.zero_add, lv_bool, allLive, Bool.and_true]
      exact hlo1
    simp (decide := true) only [Slots.get, if_true, resOfG_one, resV_cell, pLoad_agg ag40 sz40, rd_set, cellsAt, List.getD_cons_zero, List.getD_cons_succ, Nat.zero_add, lv_bool, allLive, Bool.and_true, Bool.true_and, cellsAt, List.getD_cons_zero, List.getD_cons_succ, Nat.zero_add, lv_bool, allLive, Bool.and_true]
    refine ⟨_, Sub.refl _, ⟨z', o, rfl, hzo.set_bool (hsub _ _ ((AHeap.set_ne _ _ ne_1q14_0q2.symm).trans ((AHeap.set_ne _ _ ne_1_0q2.symm).trans (AHeap.set_same _ _ _)))) _, hdo, by rw [hvo, hv], hlo⟩, Sub.trans_set (Sub.trans ?_ hsub) hf_0q2⟩
    exact (by repeat (first | exact Sub.refl _ | refine Sub.trans_set ?_ (by assumption)))
end Go.Proofs.YthiiakghjoeikaaGreatDoor

/-
  An assertion layer over the model's wp, part Y: statements of open order whose calls are chained and leave the told heap, with reading operations between them (rule H).
  Conditions: none. Nothing here is about a particular program.
-/
namespace Go.AM
open Go.RowKit (Below)
section
variable {P : Program} {w₀ : World} {n : Nat}

/-- Operations in an order of our own; the first m leave what is told of the heap. -/
def hOps (P : Program) (w₀ : World) (l : List Oper) : Nat → List Oper → Slots → AHeap → (Slots → AHeap → Prop) → Prop
  | _, [], s, h, K => K s h
  | 0, o :: r, s, h, K => aOps P w₀ l (o :: r) s h K
  | m + 1, o :: r, s, h, K => aOps P w₀ l [o] s h fun s' h' => Sub h h' ∧ hOps P w₀ l m r s' h' K
theorem hOps_nil {l : List Oper} {m : Nat} {s : Slots} {h : AHeap} {K : Slots → AHeap → Prop} : hOps P w₀ l m [] s h K = K s h := by cases m <;> rfl
theorem hOps_cons {l : List Oper} {m : Nat} {o : Oper} {r : List Oper} {s : Slots} {h : AHeap} {K : Slots → AHeap → Prop} : hOps P w₀ l (m + 1) (o :: r) s h K = aOps P w₀ l [o] s h fun s' h' => Sub h h' ∧ hOps P w₀ l m r s' h' K := rfl
theorem hOps_zero {l : List Oper} {o : Oper} {r : List Oper} {s : Slots} {h : AHeap} {K : Slots → AHeap → Prop} : hOps P w₀ l 0 (o :: r) s h K = aOps P w₀ l (o :: r) s h K := rfl
theorem Sub_self (h : AHeap) : Sub h h = True := eq_true (Sub.refl h)

theorem aOps_one {l : List Oper} {o : Oper} {r : List Oper} {s : Slots} {h : AHeap} {K : Slots → AHeap → Prop} (ha : aOps P w₀ l (o :: r) s h K) : aOps P w₀ l [o] s h fun s' h' => aOps P w₀ l r s' h' K := by
  simp only [aOps] at ha ⊢
  exact ha
/-- What the looked-at slots hold. -/
def LookOk (ψ : PMap) (n : Nat) (l : List Oper) (o : Oper) (S : Slots) (a : Act) : Prop := a.tmps.size = n ∧ a.defers = [] ∧ ∀ t ∈ looksL l o, VR ψ (S.get t) (a.tmps.getD t undef)
theorem LookOk.rel {ψ : PMap} {l : List Oper} {o : Oper} {S : Slots} {a : Act} (h : LookOk ψ n l o S a) : SRel ψ n (S.keep (looksL l o)) a := by
  refine ⟨h.1, h.2.1, fun t => ?_⟩
  rw [Slots.get_keep]
  by_cases ht : (looksL l o).contains t = true
  · rw [if_pos ht]; exact h.2.2 t (by simpa using ht)
  · rw [if_neg ht]; trivial
theorem guard_look {ψ : PMap} {l : List Oper} (hall : dstsOk n l = true) {o : Oper} {S : Slots} {a : Act} (h : LookOk ψ n l o S a) {j d : Nat} {want : Bool} (hg : o.guard = some (j, want)) (hj : nthDst l j = some d) (hk : gKnown (S.get d) = true) :
    Region.wanted o (yielded l.toArray a.tmps) = guardB (S.get d) want := by
  have hd : (S.keep (looksL l o)).get d = S.get d := by
    rw [Slots.get_keep, if_pos]
    simp [looksL, hg, hj]
  have := guard_ok h.rel l j d hj (nth_lt l j d hall hj) (by rw [hd]; exact hk) want
  rw [hd] at this
  simp only [Region.wanted, hg]
  exact this
theorem guard_never {l : List Oper} {o : Oper} {j : Nat} {want : Bool} {a : Act} (hg : o.guard = some (j, want)) (hj : nthDst l j = none) : Region.wanted o (yielded l.toArray a.tmps) = false := by
  have hd : (l.toArray[j]?).bind (·.dst) = none := by rw [← hj, nthDst_eq]; simp
  simp only [Region.wanted, hg, yielded, hd]
  rfl

/-- One operation is run. -/
theorem one_ok {l : List Oper} (hall : dstsOk n l = true) {o : Oper} {S : Slots} {g : AHeap} {K : Slots → AHeap → Prop} (ha : aOps P w₀ l [o] S g K) {ψ : PMap} {w : World} {a : Act} (hr : HRel w₀ ψ g w) (hl : LookOk ψ n l o S a)
    {next : Act → World → Prop} {Q : Exit → Act → World → Prop} (hn : ∀ ψ' x h' v w', ψ.le ψ' → HRel w₀ ψ' h' w' → VR ψ' x v → K (putD S o.dst x) h' → next (a.put o.dst v) w') :
    if Region.wanted o (yielded l.toArray a.tmps) = true then o.wp P a w next Q else next (a.put o.dst undef) w := by
  have hs := hl.rel
  have run : ∀ (K' : AVal → AHeap → Prop), eop P w₀ g S o.op K' → (∀ x h', K' x h' → K (putD S o.dst x) h') → o.wp P a w next Q := fun K' he hk => by
    rw [← eop_congr (s' := S.keep (looksL l o)) o.op (ev_mem fun t ht => by unfold looksL; exact List.mem_append_left _ ht)] at he
    exact eop_ok o he hr hs fun ψ' x h' v w' e1 e2 e3 e4 => hn ψ' x h' v w' e1 e2 e3 (hk x h' e4)
  have skip : K (putD S o.dst (.tuple [])) g → next (a.put o.dst undef) w := fun hk => hn ψ _ g undef w ψ.le_refl hr (VR_undef ψ) hk
  simp only [aOps] at ha
  cases hg : o.guard with
  | none =>
    simp only [hg] at ha
    have hw : Region.wanted o (yielded l.toArray a.tmps) = true := by simp [Region.wanted, hg]
    rw [if_pos hw]
    exact run _ ha fun _ _ hk => hk
  | some gw =>
    obtain ⟨j, want⟩ := gw
    simp only [hg] at ha
    cases hj : nthDst l j with
    | none =>
      simp only [hj] at ha
      rw [if_neg (by rw [guard_never hg hj]; decide)]
      exact skip ha
    | some d =>
      simp only [hj] at ha
      obtain ⟨hk, ha⟩ := ha
      rw [guard_look hall hl hg hj hk]
      split at ha
      · rename_i hp
        obtain ⟨h1, h2⟩ := ha
        cases hb : guardB (S.get d) want with
        | true =>
          simp only [hb, condV, cond_true] at h2
          simp only [if_true]
          exact run (fun x h' => x = (pop P w₀ g S o.op).val ∧ h' = g) ((eop_pure hp).2 ⟨h1 hb, rfl, rfl⟩) fun x h' ⟨e1, e2⟩ => by subst e1 e2; exact h2
        | false =>
          simp only [hb, condV, cond_false] at h2
          simp only [Bool.false_eq_true, if_false]
          exact skip h2
      · obtain ⟨h1, h2⟩ := ha
        cases hb : guardB (S.get d) want with
        | true =>
          simp only [if_true]
          exact run _ (h1 hb) fun _ _ hk => hk
        | false =>
          simp only [Bool.false_eq_true, if_false]
          exact skip (h2 hb)

/-- A reading operation gives the same wherever the told heap lies, and whenever it is run. -/
def FactR (P : Program) (w₀ : World) (n : Nat) (l : List Oper) (g : AHeap) (S : Slots) (o : Oper) (V : AVal) : Prop :=
  ∀ (ψ : PMap) (w : World) (a : Act) (g' : AHeap) (next : Act → World → Prop) (Q : Exit → Act → World → Prop), Sub g g' → HRel w₀ ψ g' w → LookOk ψ n l o S a → (∀ v, VR ψ V v → next (a.put o.dst v) w) →
    if Region.wanted o (yielded l.toArray a.tmps) = true then o.wp P a w next Q else next (a.put o.dst undef) w
theorem FactR.sub {l : List Oper} {g g' : AHeap} {S : Slots} {o : Oper} {V : AVal} (h : FactR P w₀ n l g S o V) (hs : Sub g g') : FactR P w₀ n l g' S o V :=
  fun ψ w a g₂ next Q h1 h2 h3 h4 => h ψ w a g₂ next Q (Sub.trans hs h1) h2 h3 h4
theorem FactR.slots {l : List Oper} {g : AHeap} {S S' : Slots} {o : Oper} {V : AVal} (h : FactR P w₀ n l g S o V) (hs : ∀ t ∈ looksL l o, S'.get t = S.get t) : FactR P w₀ n l g S' o V :=
  fun ψ w a g₂ next Q h1 h2 h3 h4 => h ψ w a g₂ next Q h1 h2 ⟨h3.1, h3.2.1, fun t ht => by rw [← hs t ht]; exact h3.2.2 t ht⟩ h4
theorem fact_of {l : List Oper} (hall : dstsOk n l = true) {o : Oper} (hk2 : kindF P o.op = 2) {S : Slots} {g : AHeap} {K : Slots → AHeap → Prop} (ha : aOps P w₀ l [o] S g K) : ∃ V, K (putD S o.dst V) g ∧ FactR P w₀ n l g S o V := by
  have hp := kindF_pure hk2
  have same : pop P w₀ g (S.keep (looksL l o)) o.op = pop P w₀ g S o.op := pop_congr o.op (ev_mem fun t ht => by unfold looksL; exact List.mem_append_left _ ht)
  have run : (pop P w₀ g S o.op).pre → ∀ (ψ : PMap) (w : World) (a : Act) (g' : AHeap) (next : Act → World → Prop) (Q : Exit → Act → World → Prop), Sub g g' → HRel w₀ ψ g' w → LookOk ψ n l o S a → (∀ v, VR ψ (pop P w₀ g S o.op).val v → next (a.put o.dst v) w) → o.wp P a w next Q := by
    intro hpre ψ w a g' next Q h1 h2 h3 h4
    rw [← same] at hpre h4
    have up := pop_up (g := g') hk2 (fun k b hb _ => h1 k b hb) h3.rel hpre
    rw [← up] at hpre h4
    obtain ⟨r, e1, e2⟩ := pop_ok o hpre h2 h3.rel
    exact wp_value (e1 w (Same.refl w)) (h4 r e2)
  simp only [aOps] at ha
  cases hg : o.guard with
  | none =>
    simp only [hg] at ha
    rw [eop_pure hp] at ha
    refine ⟨_, ha.2, fun ψ w a g' next Q h1 h2 h3 h4 => ?_⟩
    have hw : Region.wanted o (yielded l.toArray a.tmps) = true := by simp [Region.wanted, hg]
    rw [if_pos hw]
    exact run ha.1 ψ w a g' next Q h1 h2 h3 h4
  | some gw =>
    obtain ⟨j, want⟩ := gw
    simp only [hg] at ha
    cases hj : nthDst l j with
    | none =>
      simp only [hj] at ha
      refine ⟨_, ha, fun ψ w a g' next Q h1 h2 h3 h4 => ?_⟩
      rw [if_neg (by rw [guard_never hg hj]; decide)]
      exact h4 _ (VR_undef ψ)
    | some d =>
      simp only [hj] at ha
      obtain ⟨hk, ha⟩ := ha
      rw [if_pos hp] at ha
      obtain ⟨h1, h2⟩ := ha
      refine ⟨_, h2, fun ψ w a g' next Q q1 q2 q3 q4 => ?_⟩
      rw [guard_look hall q3 hg hj hk]
      cases hb : guardB (S.get d) want with
      | true =>
        simp only [hb, condV, cond_true] at q4
        simp only [if_true]
        exact run (h1 hb) ψ w a g' next Q q1 q2 q3 q4
      | false =>
        simp only [hb, condV, cond_false] at q4
        simp only [Bool.false_eq_true, if_false]
        exact q4 _ (VR_undef ψ)

/-! ### The static conditions -/
def permL (l : List Oper) (π : List Nat) : List Oper := π.filterMap fun i => l[i]?
def isF (P : Program) (l : List Oper) (i : Nat) : Bool := match l[i]? with
  | some o => kindF P o.op == 2
  | none => true
def floatH (P : Program) (l : List Oper) (π : List Nat) (ws : List (Option Nat)) (m : Nat) : Bool :=
  orderB l && (π.all fun i => decide (i < l.length)) && ((List.range l.length).all fun i => π.contains i) &&
  ((List.range π.length).all fun q => (List.range π.length).all fun r => decide (q = r) || !(π.getD q 0 == π.getD r 0)) &&
  ((List.range π.length).all fun q => match ws.getD q none with
    | none => (List.range q).all fun c => isF P l (π.getD c 0)
    | some r => decide (r < q) && Region.waitsFor .any l.toArray (π.getD q 0) (π.getD r 0) && (List.range q).all fun c => decide (c ≤ r) || isF P l (π.getD c 0)) &&
  ((List.range π.length).all fun q => match l[π.getD q 0]? with
    | none => true
    | some o => (List.range π.length).all fun r => match l[π.getD r 0]? with
      | none => true
      | some oj => (match oj.dst with
        | none => true
        | some t => !(looksL l o).contains t || (decide (r < q) && Region.waitsFor .any l.toArray (π.getD q 0) (π.getD r 0)))) &&
  decide (m ≤ π.length) && ((List.range π.length).all fun q => decide (q < m) || !isF P l (π.getD q 0)) &&
  (decide (m = π.length) || (List.range m).all fun q => (List.range (m + 1)).any fun r => decide (q < r) && Region.waitsFor .any l.toArray (π.getD r 0) (π.getD q 0))

structure FloatP (P : Program) (l : List Oper) (π : List Nat) (m : Nat) : Prop where
  order : orderB l = true
  inr : ∀ q, q < π.length → π.getD q 0 < l.length
  onto : ∀ i, i < l.length → ∃ q, q < π.length ∧ π.getD q 0 = i
  inj : ∀ q r, q < π.length → r < π.length → π.getD q 0 = π.getD r 0 → q = r
  wait : ∀ q c, q < π.length → c < q → isF P l (π.getD c 0) = false → ∃ r, c ≤ r ∧ r < q ∧ Region.waitsFor .any l.toArray (π.getD q 0) (π.getD r 0) = true
  data : ∀ q r o oj t, q < π.length → r < π.length → l[π.getD q 0]? = some o → l[π.getD r 0]? = some oj → oj.dst = some t → t ∈ looksL l o → r < q ∧ Region.waitsFor .any l.toArray (π.getD q 0) (π.getD r 0) = true
  mle : m ≤ π.length
  tail : ∀ q, m ≤ q → q < π.length → isF P l (π.getD q 0) = false
  sink : m < π.length → ∀ q, q < m → ∃ r, q < r ∧ r ≤ m ∧ Region.waitsFor .any l.toArray (π.getD r 0) (π.getD q 0) = true

theorem floatH_spec {l : List Oper} {π : List Nat} {ws : List (Option Nat)} {m : Nat} (h : floatH P l π ws m = true) : FloatP P l π m := by
  unfold floatH at h
  simp only [Bool.and_eq_true] at h
  obtain ⟨⟨⟨⟨⟨⟨⟨⟨h1, h2⟩, h3⟩, h4⟩, h5⟩, h6⟩, h7⟩, h8⟩, h9⟩ := h
  simp only [List.all_eq_true, List.mem_range] at h2 h3 h4 h5 h6 h8
  refine ⟨h1, fun q hq => ?_, fun i hi => ?_, fun q r hq hr e => ?_, fun q c hq hc hf => ?_, fun q r o oj t hq hr ho hoj hd ht => ?_, by simpa using h7, fun q hm hq => ?_, fun hm q hq => ?_⟩
  · have := h2 (π.getD q 0) (by rw [List.getD, List.getElem?_eq_getElem hq]; exact List.getElem_mem hq)
    simpa using this
  · have := h3 i hi
    rw [List.contains_iff_mem] at this
    obtain ⟨q, hq, e⟩ := List.getElem_of_mem this
    exact ⟨q, hq, by rw [List.getD, List.getElem?_eq_getElem hq]; exact e⟩
  · have := h4 q hq r hr
    rw [Bool.or_eq_true, decide_eq_true_eq] at this
    rcases this with e' | e'
    · exact e'
    · rw [e] at e'; simp at e'
  · have := h5 q hq
    split at this
    · rw [List.all_eq_true] at this
      rw [this c (List.mem_range.2 hc)] at hf
      cases hf
    · rename_i r _
      simp only [Bool.and_eq_true, decide_eq_true_eq, List.all_eq_true, List.mem_range, Bool.or_eq_true] at this
      obtain ⟨⟨t1, t2⟩, t3⟩ := this
      rcases t3 c hc with e | e
      · exact ⟨r, e, t1, t2⟩
      · rw [e] at hf; cases hf
  · have := h6 q hq
    rw [ho] at this
    simp only [List.all_eq_true, List.mem_range] at this
    have := this r hr
    rw [hoj] at this
    simp only [hd, Bool.or_eq_true, Bool.and_eq_true, decide_eq_true_eq, Bool.not_eq_true'] at this
    rcases this with e | e
    · have hm : (looksL l o).contains t = true := by simpa using ht
      rw [hm] at e; cases e
    · exact e
  · have := h8 q hq
    simp only [Bool.or_eq_true, decide_eq_true_eq, Bool.not_eq_true'] at this
    rcases this with e | e
    · omega
    · exact e
  · rw [Bool.or_eq_true, decide_eq_true_eq] at h9
    rcases h9 with e | e
    · omega
    · rw [List.all_eq_true] at e
      have := e q (List.mem_range.2 hq)
      rw [List.any_eq_true] at this
      obtain ⟨r, hr, hw⟩ := this
      rw [List.mem_range] at hr
      simp only [Bool.and_eq_true, decide_eq_true_eq] at hw
      exact ⟨r, hw.1, by omega, hw.2⟩

theorem permL_at {l : List Oper} : ∀ {π : List Nat}, (∀ q, q < π.length → π.getD q 0 < l.length) → ∀ q, q < π.length → (permL l π)[q]? = l[π.getD q 0]?
  | i :: π, h, q, hq => by
    have h0 : i < l.length := h 0 (by simp)
    have e : permL l (i :: π) = l[i] :: permL l π := by
      unfold permL
      rw [List.filterMap_cons, List.getElem?_eq_getElem h0]
    rw [e]
    cases q with
    | zero => simp [List.getElem?_eq_getElem h0]
    | succ q =>
      rw [List.getElem?_cons_succ, permL_at (π := π) (fun q hq => h (q + 1) (by simpa using hq)) q (by simpa using hq)]
      rfl
theorem permL_length {l : List Oper} : ∀ {π : List Nat}, (∀ q, q < π.length → π.getD q 0 < l.length) → (permL l π).length = π.length
  | [], _ => rfl
  | i :: π, h => by
    have h0 : i < l.length := h 0 (by simp)
    unfold permL
    rw [List.filterMap_cons, List.getElem?_eq_getElem h0]
    simp only [List.length_cons]
    exact congrArg (· + 1) (permL_length (π := π) fun q hq => h (q + 1) (by simpa using hq))
theorem permL_drop {l : List Oper} {π : List Nat} (h : ∀ q, q < π.length → π.getD q 0 < l.length) {p : Nat} (hp : p < π.length) {o : Oper} (ho : l[π.getD p 0]? = some o) : (permL l π).drop p = o :: (permL l π).drop (p + 1) := by
  have e := permL_at h p hp
  rw [ho] at e
  have hl := (List.getElem?_eq_some_iff.1 e).1
  rw [List.drop_eq_getElem_cons hl]
  congr 1
  exact (List.getElem?_eq_some_iff.1 e).2

/-- Over the reading operations, up to the next call. -/
theorem advance {l : List Oper} (hall : dstsOk n l = true) {π : List Nat} {m : Nat} (F : FloatP P l π m) {K : Slots → AHeap → Prop} {g : AHeap} : ∀ (d p : Nat) (S : Slots), π.length - p = d → p ≤ π.length → hOps P w₀ l (m - p) ((permL l π).drop p) S g K →
    ∃ p' S', p ≤ p' ∧ p' ≤ π.length ∧ (p' < π.length → isF P l (π.getD p' 0) = false) ∧ (∀ q, p ≤ q → q < p' → isF P l (π.getD q 0) = true) ∧ hOps P w₀ l (m - p') ((permL l π).drop p') S' g K ∧
      (∀ q o, p ≤ q → q < p' → l[π.getD q 0]? = some o → ∃ V, (∀ t, o.dst = some t → S'.get t = V) ∧ FactR P w₀ n l g S' o V) ∧
      (∀ t, (∀ q o, p ≤ q → q < p' → l[π.getD q 0]? = some o → o.dst ≠ some t) → S'.get t = S.get t) := by
  intro d
  induction d with
  | zero =>
    intro p S hd hp ha
    exact ⟨p, S, Nat.le_refl _, hp, fun h => by omega, fun q h1 h2 => by omega, ha, fun q o h1 h2 => by omega, fun t _ => rfl⟩
  | succ d ih =>
    intro p S hd hp ha
    have hpl : p < π.length := by omega
    cases hf : isF P l (π.getD p 0) with
    | false => exact ⟨p, S, Nat.le_refl _, hp, fun _ => hf, fun q h1 h2 => by omega, ha, fun q o h1 h2 => by omega, fun t _ => rfl⟩
    | true =>
      have hpm : p < m := by
        refine Nat.lt_of_not_le fun h => ?_
        rw [F.tail p h hpl] at hf
        cases hf
      obtain ⟨o, ho⟩ : ∃ o, l[π.getD p 0]? = some o := ⟨_, List.getElem?_eq_getElem (F.inr p hpl)⟩
      have hk2 : kindF P o.op = 2 := by
        unfold isF at hf
        rw [ho] at hf
        simpa using hf
      rw [permL_drop F.inr hpl ho, show m - p = (m - (p + 1)) + 1 by omega, hOps_cons] at ha
      obtain ⟨V, ⟨_, hv⟩, hfact⟩ := fact_of hall hk2 ha
      obtain ⟨p', S', a1, a2, a3, a4, a5, a6, a7⟩ := ih (p + 1) (putD S o.dst V) (by omega) (by omega) hv
      have notlook : ∀ q oq t, p ≤ q → q < π.length → l[π.getD q 0]? = some oq → oq.dst = some t → t ∉ looksL l o := fun q oq t h1 h2 h3 h4 ht => by
        have := (F.data p q o oq t hpl h2 ho h3 h4 ht).1
        omega
      have uniq : ∀ q oq t, p < q → q < π.length → l[π.getD q 0]? = some oq → oq.dst = some t → o.dst ≠ some t := fun q oq t h1 h2 h3 h4 e => by
        have := ((orderB_spec F.order ho).2 _ oq t h3 h4).1 e
        have := F.inj p q hpl h2 this
        omega
      refine ⟨p', S', by omega, a2, a3, fun q h1 h2 => ?_, a5, fun q oq h1 h2 hq => ?_, fun t ht => ?_⟩
      · rcases Nat.eq_or_lt_of_le h1 with e | e
        · rw [← e]; exact hf
        · exact a4 q e h2
      · rcases Nat.eq_or_lt_of_le h1 with e | e
        · subst e
          rw [ho] at hq
          obtain rfl := Option.some.inj hq
          refine ⟨V, fun t ht => ?_, hfact.slots fun t ht => ?_⟩
          · rw [a7 t fun q oq h3 h4 h5 h6 => uniq q oq t h3 (by omega) h5 h6 ht, put_get, if_pos ht]
          · rw [a7 t fun q oq h3 h4 h5 h6 => notlook q oq t (by omega) (by omega) h5 h6 ht, put_get, if_neg fun e => notlook p o t (Nat.le_refl _) hpl ho e ht]
        · exact a6 q oq e h2 hq
      · rw [a7 t fun q oq h3 h4 h5 => ht q oq (by omega) h4 h5, put_get, if_neg (ht p o (Nat.le_refl _) (by omega) ho)]

/-- Where a run of the statement stands. -/
def PhaseP (P : Program) (w₀ : World) (n : Nat) (l : List Oper) (π : List Nat) (m : Nat) (K : Slots → AHeap → Prop) (listed : Array Bool) (ψ : PMap) (a : Act) (w : World) : Prop :=
  listed.size = l.length ∧ (∀ j oj, l[j]? = some oj → listed.getD j false = true → ∀ e ∈ oj.after, Region.binds .any e = true → listed.getD e.on false = true) ∧ a.tmps.size = n ∧ a.defers = [] ∧
  ∃ p S g, p ≤ π.length ∧ (p < π.length → isF P l (π.getD p 0) = false) ∧ (∀ q, p ≤ q → q < π.length → listed.getD (π.getD q 0) false = false) ∧ (∀ q, q < p → isF P l (π.getD q 0) = false → listed.getD (π.getD q 0) false = true) ∧
    (m < p → ∀ q, q < p → listed.getD (π.getD q 0) false = true) ∧ HRel w₀ ψ g w ∧ hOps P w₀ l (m - p) ((permL l π).drop p) S g K ∧
    (∀ q o, q < p → l[π.getD q 0]? = some o → listed.getD (π.getD q 0) false = false → ∃ V, (∀ t, o.dst = some t → S.get t = V) ∧ FactR P w₀ n l g S o V) ∧
    ∀ t, (∃ q o, q < p ∧ l[π.getD q 0]? = some o ∧ o.dst = some t ∧ listed.getD (π.getD q 0) false = false) ∨ VR ψ (S.get t) (a.tmps.getD t undef)

theorem waits_listed {l : List Oper} {listed : Array Bool} {i j : Nat} {o : Oper} (ho : l[i]? = some o) (hedges : ∀ e ∈ o.after, Region.binds .any e = true → listed.getD e.on false = true) (hw : Region.waitsFor .any l.toArray i j = true) : listed.getD j false = true := by
  obtain ⟨oi, g1, e, g2, g3, g4⟩ := Region.waitsFor_spec hw
  have g1' : l[i]? = some oi := by simpa using g1
  rw [ho] at g1'
  obtain rfl := Option.some.inj g1'
  rw [← g4]
  exact hedges e g2 g3

theorem any_okP {l : List Oper} (hall : dstsOk n l = true) {π : List Nat} {m : Nat} (F : FloatP P l π m) {K : Slots → AHeap → Prop} {φ : PMap} {Q : Exit → Act → World → Prop}
    (hq : ∀ ψ S g a w, φ.le ψ → HRel w₀ ψ g w → SRel ψ n S a → K S g → Q .normal a w) : ∀ (fuel : Nat) (listed : Array Bool) (a : Act) (w : World) (ψ : PMap), φ.le ψ → PhaseP P w₀ n l π m K listed ψ a w →
    (listed.toList.filter (!·)).length ≤ fuel → wpAny P .any l.toArray Q fuel listed a w := by
  have hB := F.order
  have fin : ∀ (listed : Array Bool) (a : Act) (w : World) (ψ : PMap), φ.le ψ → PhaseP P w₀ n l π m K listed ψ a w → Region.ready .any l.toArray listed = [] → Q .normal a w := by
    rintro listed a w ψ hle ⟨i1, i2, i3, i4, p, S, g, p1, p2, p3, p4, p5, p6, p7, p8, p9⟩ hrd
    have hal := all_listed hB i1 hrd
    have hp : p = π.length := by
      rcases Nat.eq_or_lt_of_le p1 with e | e
      · exact e
      · have := p3 p (Nat.le_refl _) e
        rw [hal _ (F.inr p e)] at this
        cases this
    subst hp
    rw [show (permL l π).drop π.length = [] by rw [← permL_length F.inr]; simp, hOps_nil] at p7
    refine hq ψ S g a w hle p6 ⟨i3, i4, fun t => ?_⟩ p7
    rcases p9 t with ⟨q, o, c1, c2, c3, c4⟩ | c
    · rw [hal _ (F.inr q c1)] at c4; cases c4
    · exact c
  intro fuel
  induction fuel with
  | zero =>
    intro listed a w ψ hle inv hc
    have hrd : Region.ready .any l.toArray listed = [] := by
      cases hrd : Region.ready .any l.toArray listed with
      | nil => rfl
      | cons i r =>
        exfalso
        have hm : i ∈ Region.ready .any l.toArray listed := by rw [hrd]; exact List.mem_cons_self
        obtain ⟨h1, o, ho, _⟩ := mem_ready.1 hm
        have hi : i < listed.size := by
          have : l[i]? = some o := by simpa using ho
          rw [inv.1]; exact (List.getElem?_eq_some_iff.1 this).1
        have h2 : listed.toList[i]? = some false := by
          simp [Array.getD, hi] at h1
          simp [hi, h1]
        have := List.mem_of_getElem? h2
        have hmem : false ∈ listed.toList.filter (!·) := by simp [List.mem_filter, this]
        have := List.length_pos_of_mem hmem
        omega
    exact ⟨hrd, fin listed a w ψ hle inv hrd⟩
  | succ fuel ih =>
    intro listed a w ψ hle inv hc
    refine ⟨fun hrd => fin listed a w ψ hle inv hrd, fun i hi => ?_⟩
    obtain ⟨i1, i2, i3, i4, p, S, g, p1, p2, p3, p4, p5, p6, p7, p8, p9⟩ := inv
    obtain ⟨h1, o, ho, hedges⟩ := mem_ready.1 hi
    have hol : l[i]? = some o := by simpa using ho
    have hilt : i < l.length := (List.getElem?_eq_some_iff.1 hol).1
    have hisz : i < listed.size := by rw [i1]; exact hilt
    have hif : listed.getD i false = false := by simp [Array.getD, hisz] at h1 ⊢; exact h1
    have hcount : ((listed.setIfInBounds i true).toList.filter (!·)).length ≤ fuel := by
      have h2 : listed.toList[i]? = some false := by
        simp [Array.getD, hisz] at h1
        simp [hisz, h1]
      have := count_set listed.toList i h2
      have e : (listed.setIfInBounds i true).toList = listed.toList.set i true := by simp
      rw [e]
      omega
    have hdn : ∀ d, o.dst = some d → d < n := fun d hd => nth_lt l i d hall (by rw [nthDst_eq, hol]; exact hd)
    obtain ⟨q, hql, hqi⟩ := F.onto i hilt
    have hoq : l[π.getD q 0]? = some o := by rw [hqi]; exact hol
    have looks : LookOk ψ n l o S a := ⟨i3, i4, fun t ht => by
      rcases p9 t with ⟨r, oj, c1, c2, c3, c4⟩ | c
      · exfalso
        have := (F.data q r o oj t hql (by omega) hoq c2 c3 ht).2
        rw [hqi] at this
        rw [waits_listed hol hedges this] at c4
        cases c4
      · exact c⟩
    have closed' : ∀ j oj, l[j]? = some oj → (listed.setIfInBounds i true).getD j false = true → ∀ e ∈ oj.after, Region.binds .any e = true → (listed.setIfInBounds i true).getD e.on false = true := fun j oj hj hl e he hb => by
      by_cases e1 : e.on = i
      · rw [e1]; exact set_self hisz
      · rw [set_other e1]
        by_cases e2 : j = i
        · subst e2
          rw [hol] at hj
          obtain rfl := Option.some.inj hj
          exact hedges e he hb
        · rw [set_other e2] at hl
          exact i2 j oj hj hl e he hb
    have other : ∀ r, r < π.length → r ≠ q → (listed.setIfInBounds i true).getD (π.getD r 0) false = listed.getD (π.getD r 0) false := fun r hr hne => set_other fun e => hne (F.inj r q hr hql (by rw [e, hqi]))
    have nobehind : p < q → False := fun hpq => by
      obtain ⟨r, r1, r2, r3⟩ := F.wait q p hql hpq (p2 (by omega))
      rw [hqi] at r3
      have := waits_listed hol hedges r3
      rw [p3 r r1 (by omega)] at this
      cases this
    have goal : (if Region.wanted o (yielded l.toArray a.tmps) = true then o.wp P a w (wpAny P .any l.toArray Q fuel (listed.setIfInBounds i true)) Q else wpAny P .any l.toArray Q fuel (listed.setIfInBounds i true) (a.put o.dst undef) w) := by
      rcases Nat.lt_or_ge q p with hqp | hqp
      · -- a reading operation
        obtain ⟨V, v1, v2⟩ := p8 q o hqp hoq (by rw [hqi]; exact hif)
        refine v2 ψ w a g _ Q (Sub.refl g) p6 looks fun v hv => ?_
        refine ih _ _ _ ψ hle ⟨by simp [i1], closed', by rw [put_size]; exact i3, by rw [put_defers]; exact i4, p, S, g, p1, p2, fun r r1 r2 => ?_, fun r r1 r2 => ?_, fun hm r r1 => ?_, p6, p7, fun r oj r1 r2 r3 => ?_, fun t => ?_⟩ hcount
        · rw [other r r2 (by omega)]; exact p3 r r1 r2
        · by_cases e : r = q
          · rw [e, hqi]; exact set_self hisz
          · rw [other r (by omega) e]; exact p4 r r1 r2
        · by_cases e : r = q
          · rw [e, hqi]; exact set_self hisz
          · rw [other r (by omega) e]; exact p5 hm r r1
        · by_cases e : r = q
          · rw [e, hqi, set_self hisz] at r3; cases r3
          · rw [other r (by omega) e] at r3
            exact p8 r oj r1 r2 r3
        · by_cases hod : o.dst = some t
          · right
            rw [v1 t hod, put_get_eq a hod (by rw [i3]; exact hdn t hod)]
            exact hv
          · rcases p9 t with ⟨r, oj, c1, c2, c3, c4⟩ | c
            · refine .inl ⟨r, oj, c1, c2, c3, ?_⟩
              rw [other r (by omega) fun e => by subst e; rw [hoq] at c2; obtain rfl := Option.some.inj c2; exact hod c3]
              exact c4
            · right
              rw [put_get_ne a hod]
              exact c
      · have hqe : q = p := by
          rcases Nat.eq_or_lt_of_le hqp with e | e
          · exact e.symm
          · exact (nobehind e).elim
        subst hqe
        -- a call
        have all_m : m ≤ q → ∀ r, r < q → listed.getD (π.getD r 0) false = true := fun hm r hr => by
          rcases Nat.eq_or_lt_of_le hm with e | e
          · subst e
            have key : ∀ d r, r + d = m → r < m → listed.getD (π.getD r 0) false = true := by
              intro d
              induction d using Nat.strongRecOn with
              | ind d ihd =>
                intro r hd hr
                obtain ⟨r', s1, s2, s3⟩ := F.sink hql r hr
                rcases Nat.eq_or_lt_of_le s2 with e | e
                · subst e
                  rw [hqi] at s3
                  exact waits_listed hol hedges s3
                · have hl := ihd (m - r') (by omega) r' (by omega) e
                  obtain ⟨oj, hoj⟩ : ∃ oj, l[π.getD r' 0]? = some oj := ⟨_, List.getElem?_eq_getElem (F.inr r' (by omega))⟩
                  exact waits_listed hoj (i2 _ oj hoj hl) s3
            exact key (m - r) r (by omega) hr
          · exact p5 e r hr
        obtain ⟨K', ha, hnext⟩ : ∃ K' : Slots → AHeap → Prop, aOps P w₀ l [o] S g K' ∧ ∀ s' h', K' s' h' → (q < m → Sub g h') ∧ hOps P w₀ l (m - (q + 1)) ((permL l π).drop (q + 1)) s' h' K := by
          rw [permL_drop F.inr hql hoq] at p7
          by_cases c : q < m
          · rw [show m - q = (m - (q + 1)) + 1 by omega, hOps_cons] at p7
            exact ⟨_, p7, fun s' h' hx => ⟨fun _ => hx.1, hx.2⟩⟩
          · rw [show m - q = 0 by omega, hOps_zero] at p7
            refine ⟨_, aOps_one p7, fun s' h' hx => ⟨fun hc => absurd hc c, ?_⟩⟩
            rw [show m - (q + 1) = 0 by omega]
            cases hdr : (permL l π).drop (q + 1) with
            | nil => rw [hdr] at hx; rw [hOps_nil]; exact hx
            | cons o' r' => rw [hdr] at hx; exact hx
        refine one_ok hall ha p6 looks fun ψ' x h' v w' e1 e2 e3 hk => ?_
        obtain ⟨k1, k2⟩ := hnext _ _ hk
        obtain ⟨p', S', a1, a2, a3, a4, a5, a6, a7⟩ := advance hall F (π.length - (q + 1)) (q + 1) (putD S o.dst x) rfl (by omega) k2
        have keep : ∀ r or t, r < q → l[π.getD r 0]? = some or → (or.dst = some t ∨ t ∈ looksL l or) → S'.get t = S.get t := fun r or t hr hor ht => by
          have nd : ∀ u ou, q ≤ u → u < π.length → l[π.getD u 0]? = some ou → ou.dst ≠ some t := fun u ou h1 h2 h3 h4 => by
            rcases ht with ht | ht
            · have := ((orderB_spec hB hor).2 _ ou t h3 h4).1 ht
              have := F.inj r u (by omega) h2 this
              omega
            · have := (F.data r u or ou t (by omega) h2 hor h3 h4 ht).1
              omega
          rw [a7 t fun u ou h1 h2 h3 => nd u ou (by omega) (by omega) h3, put_get, if_neg (nd q o (Nat.le_refl _) hql hoq)]
        refine ih _ _ _ ψ' (PMap.le_trans hle e1) ⟨by simp [i1], closed', by rw [put_size]; exact i3, by rw [put_defers]; exact i4, p', S', h', a2, a3, fun r r1 r2 => ?_, fun r r1 r2 => ?_, fun hm r r1 => ?_, e2, a5, fun r oj r1 r2 r3 => ?_, fun t => ?_⟩ hcount
        · rw [other r r2 (by omega)]; exact p3 r (by omega) r2
        · by_cases e : r = q
          · rw [e, hqi]; exact set_self hisz
          · rw [other r (by omega) e]
            rcases Nat.lt_or_ge r q with c | c
            · exact p4 r c r2
            · rw [a4 r (by omega) r1] at r2; cases r2
        · have hmq : m ≤ q := by
            refine Nat.le_of_not_lt fun hc => ?_
            have hmp : m < π.length := by omega
            have := a4 m (by omega) hm
            rw [F.tail m (Nat.le_refl _) hmp] at this
            cases this
          by_cases e : r = q
          · rw [e, hqi]; exact set_self hisz
          · rw [other r (by omega) e]
            rcases Nat.lt_or_ge r q with c | c
            · exact all_m hmq r c
            · have := a4 r (by omega) r1
              rw [F.tail r (by omega) (by omega)] at this
              cases this
        · by_cases e : r = q
          · rw [e, hqi, set_self hisz] at r3; cases r3
          · rw [other r (by omega) e] at r3
            rcases Nat.lt_or_ge r q with c | c
            · obtain ⟨V, v1, v2⟩ := p8 r oj c r2 r3
              have hqm : q < m := by
                refine Nat.lt_of_not_le fun hm => ?_
                rw [all_m hm r c] at r3
                cases r3
              exact ⟨V, fun t ht => (keep r oj t c r2 (.inl ht)).trans (v1 t ht), (v2.sub (k1 hqm)).slots fun t ht => keep r oj t c r2 (.inr ht)⟩
            · exact a6 r oj (by omega) r1 r2
        · by_cases hod : o.dst = some t
          · right
            rw [a7 t fun u ou h1 h2 h3 h4 => by
              have := ((orderB_spec hB hoq).2 _ ou t h3 h4).1 hod
              have := F.inj q u hql (by omega) this
              omega, put_get, if_pos hod, put_get_eq a hod (by rw [i3]; exact hdn t hod)]
            exact e3
          · by_cases hw : ∃ r or, q + 1 ≤ r ∧ r < p' ∧ l[π.getD r 0]? = some or ∧ or.dst = some t
            · obtain ⟨r, or, w1, w2, w3, w4⟩ := hw
              exact .inl ⟨r, or, w2, w3, w4, by rw [other r (by omega) (by omega)]; exact p3 r (by omega) (by omega)⟩
            · have hS : S'.get t = S.get t := by
                rw [a7 t fun u ou h1 h2 h3 h4 => hw ⟨u, ou, h1, h2, h3, h4⟩, put_get, if_neg hod]
              rcases p9 t with ⟨r, oj, c1, c2, c3, c4⟩ | c
              · exact .inl ⟨r, oj, by omega, c2, c3, by rw [other r (by omega) (by omega)]; exact c4⟩
              · right
                rw [hS, put_get_ne a hod]
                exact VR_mono e1 _ _ c
    simp only [wpOp, ho]
    split
    · rename_i hw
      rw [if_pos hw] at goal
      exact .inl goal
    · rename_i hw
      rw [if_neg hw] at goal
      exact goal

/-- A statement of open order: reading operations in any order, the others chained; of these the first leave what is told of the heap. -/
theorem awp_draw_H {Q : Exit → Slots → AHeap → Prop} {s : Slots} {h : AHeap} {id : Nat} {l : List Oper} (π : List Nat) (ws : List (Option Nat)) (m : Nat) (hm : P.follows .mixedOrders = true) (hB : floatH P l π ws m = true) (hd : dstsOk n l = true)
    (hc : hOps P w₀ l m (permL l π) s h fun s' h' => Q .normal s' h') : Awp P w₀ n (.region id l.toArray true) Q s h := by
  intro φ a w hr hs
  have F := floatH_spec hB
  refine wp_region_any hm ?_
  have hf : ∀ j, (Array.replicate l.toArray.size false).getD j false = false := fun j => by simp [Array.getD]
  obtain ⟨p', S', a1, a2, a3, a4, a5, a6, a7⟩ := advance hd F π.length 0 s rfl (Nat.zero_le _) (by rw [Nat.sub_zero, List.drop_zero]; exact hc)
  refine any_okP (φ := φ) hd F (K := fun s' h' => Q .normal s' h') (fun ψ S g a' w' hle h1 h2 h3 => ⟨ψ, S, g, hle, h1, h2, h3⟩) _ _ _ _ φ φ.le_refl
    ⟨by simp, fun j oj _ hl => (by rw [hf] at hl; cases hl), hs.size, hs.defers, p', S', h, a2, a3, fun r _ _ => hf _, fun r r1 r2 => ?_, fun hm' r r1 => ?_, hr.drew, a5, fun r oj r1 r2 _ => a6 r oj (Nat.zero_le _) r1 r2, fun t => ?_⟩ ?_
  · rw [a4 r (Nat.zero_le _) r1] at r2; cases r2
  · have := a4 m (Nat.zero_le _) hm'
    rw [F.tail m (Nat.le_refl _) (by omega)] at this
    cases this
  · by_cases hw : ∃ r or, r < p' ∧ l[π.getD r 0]? = some or ∧ or.dst = some t
    · obtain ⟨r, or, w2, w3, w4⟩ := hw
      exact .inl ⟨r, or, w2, w3, w4, hf _⟩
    · right
      rw [a7 t fun u ou _ h2 h3 h4 => hw ⟨u, ou, h2, h3, h4⟩]
      exact hs.val t
  · have := List.length_filter_le (!·) (Array.replicate l.toArray.size false).toList
    simpa using this

end
end Go.AM

/-
  The statement DecimalsSums, walked.
  Conditions: none.
-/
namespace Go.Proofs.YthiiakghjoeikaaGreatDoor
open Go.AM
open Go.Proofs
open Go.Dec
open Go.Lib (decDigits)
set_option maxRecDepth 100000

theorem whole_digZ {d : D} (cd : checkE d = 0) (n : Nat) : digZ (List.replicate n 0 ++ digs d.dig) := by
  intro x hx
  rw [List.mem_append] at hx
  rcases hx with hx | hx
  · rw [List.eq_of_mem_replicate hx]
    exact ⟨by decide, by decide⟩
  · exact digs_digZ (Small_of_check cd).2.1 x hx
theorem whole_leV (d : D) (n : Nat) : leV (List.replicate n 0 ++ digs d.dig) = ((natOf d.dig * 10 ^ n : Nat) : Int) := by
  rw [leV_zeros, leV_digs]
  push_cast
  rfl
theorem toNat_leV {n : Nat} {x : Int} (h : x = (n : Int)) : x.toNat = n := by omega
end Go.Proofs.YthiiakghjoeikaaGreatDoor

/-
  The statement DecimalsProducts, walked.
  Conditions: none.
-/
namespace Go.Proofs.YthiiakghjoeikaaGreatDoor
open Go.AM
open Go.Proofs
open Go.Dec
open Go.Lib (decDigits)
set_option maxRecDepth 100000

theorem whole_self (d : D) : leV (List.replicate (d.scale - d.scale).toNat 0 ++ digs d.dig) = (natOf d.dig : Int) := by
  rw [whole_leV, Int.sub_self]
  simp
end Go.Proofs.YthiiakghjoeikaaGreatDoor

/-
  The statement DecimalsInts, walked.
  Conditions: none.
-/
namespace Go.Proofs.YthiiakghjoeikaaGreatDoor
open Go.AM
open Go.Proofs
open Go.Dec
open Go.Lib (decDigits)
set_option maxRecDepth 100000

theorem intD_canon (n : Int) : intD n = canon (decide (n < 0)) n.natAbs 0 := by
  unfold canon
  split
  · have : n = 0 := by omega
    subst this
    show (⟨decide ((0 : Int) < 0), decDigits 0, 0⟩ : D) = zeroD
    rw [decDigits_small (by omega)]
    rfl
  · rw [strip_done (.inl rfl)]
    rfl
theorem intD_check (n : Int) (h0 : -9223372036854775808 ≤ n) (h1 : n ≤ 9223372036854775807) : checkE (intD n) = 0 := by
  rw [intD_canon]
  refine check_canon _ _ _ (long_canon _ _ _ (Nat.lt_of_le_of_lt (m := 9223372036854775808) (by omega) (by decide)) (by decide))
theorem intD_val (n : Int) : intV (intD n).neg (natOf (intD n).dig) = n := by
  show intV (decide (n < 0)) (natOf (decDigits n.natAbs)) = n
  rw [natOf_decDigits]
  unfold intV
  by_cases hn : n < 0
  · rw [decide_eq_true hn, if_pos rfl]; omega
  · rw [decide_eq_false hn, if_neg (by decide)]; omega
theorem intD_toInt (n : Int) (h0 : -9223372036854775808 ≤ n) (h1 : n ≤ 9223372036854775807) : toIntE (intD n) = (n, 0) := by
  have hv := intD_val n
  rw [toIntE, if_neg (fun e => e (intD_check n h0 h1)), if_neg (show ¬ 0 < (intD n).scale from (by show ¬ (0 : Int) < 0; decide)), hv, if_pos]
  unfold intOk
  rw [hv, decide_eq_true h0, decide_eq_true h1]
  rfl
end Go.Proofs.YthiiakghjoeikaaGreatDoor

/-
  The statement DecimalsPowers, walked.
  Conditions: none.
-/
namespace Go.Proofs.YthiiakghjoeikaaGreatDoor
open Go.AM
open Go.Proofs
open Go.Dec
open Go.Lib (decDigits)
set_option maxRecDepth 100000

theorem exp_part {m : Int} (hm : m.natAbs % 10 ≠ 0) (hb : m.natAbs < 10 ^ 62) : toIntE (canon (decide (m < 0)) m.natAbs 1) = (0, 12) ∧ checkE (canon (decide (m < 0)) m.natAbs 1) = 0 := by
  have hc : checkE (canon (decide (m < 0)) m.natAbs 1) = 0 := check_canon _ _ _ (long_canon _ _ _ hb (by decide))
  refine ⟨?_, hc⟩
  have hs : (canon (decide (m < 0)) m.natAbs 1).scale = 1 := by
    rw [(natOf_canon _ _ _).2.1, if_neg (by omega), strip_done (.inr hm)]
    rfl
  rw [toIntE, if_neg (fun e => e hc), if_pos (by omega)]
theorem exp_int (n : Int) (h0 : -9223372036854775808 ≤ n) (h1 : n ≤ 9223372036854775807) : toIntE (canon (decide (10 * n < 0)) (10 * n).natAbs 1) = (n, 0) ∧ checkE (canon (decide (10 * n < 0)) (10 * n).natAbs 1) = 0 := by
  have e : canon (decide (10 * n < 0)) (10 * n).natAbs 1 = intD n := by
    rw [intD_canon]
    have := canon_mul (decide (n < 0)) 1 n.natAbs 0
    rw [Nat.pow_one, Nat.zero_add] at this
    rw [← this]
    have e1 : decide (10 * n < 0) = decide (n < 0) := by
      by_cases c : n < 0
      · rw [decide_eq_true c, decide_eq_true (by omega)]
      · rw [decide_eq_false c, decide_eq_false (by omega)]
    rw [e1]
    congr 1
    omega
  rw [e]
  exact ⟨intD_toInt n h0 h1, intD_check n h0 h1⟩
theorem cut12_check (neg : Bool) {s : List UInt8} (hs : s.all dg = true) {k : Nat} (hk : k ≤ 62) : checkE (canon neg (natOf (s.take 12)) k) = 0 ∧ (canon neg (natOf (s.take 12)) k).dig.length ≤ 12 := by
  have ht : (s.take 12).all dg = true := by
    rw [List.all_eq_true] at hs ⊢
    exact fun b hb => hs b (List.mem_of_mem_take hb)
  have hl : natOf (s.take 12) < 10 ^ 12 := Nat.lt_of_lt_of_le (natOf_lt _ ht) (Nat.pow_le_pow_right (by decide) (by rw [List.length_take]; omega))
  obtain ⟨c1, c2⟩ := canon_bound neg (natOf (s.take 12)) k 12 (by decide) hl
  exact ⟨check_canon _ _ _ (by unfold long; omega), c1⟩
structure PowG where
  i : Nat
  n : Bool
  z : AVal
  o : List Int
  H : AHeap
structure PowOk (h : AHeap) (a p : D) (e k : Int) (ka kp kw : Nat) (g : PowG) : Prop where
  le : (g.i : Int) ≤ k
  sign : g.n = (a.neg && decide ((g.i : Int) % 2 = 1))
  hz : HoldsZ g.H g.z g.o
  dig : digZ g.o
  val : leV g.o = ((natOf a.dig ^ g.i : Nat) : Int)
  len : g.o.length ≤ 1 + 12 * g.i
  sub : Sub h g.H
  ea : g.H ka = some ⟨[.bool a.neg, .str a.dig, .int .i64 a.scale], 0⟩
  ep : g.H kp = some ⟨[.bool p.neg, .str p.dig, .int .i64 p.scale], 0⟩
  ew : g.H kw = some ⟨[.bool g.n, g.z], 0⟩
theorem odd_next (b : Bool) (i : Nat) : ((b && decide ((i : Int) % 2 = 1)) != b) = (b && decide (((i + 1 : Nat) : Int) % 2 = 1)) := by
  cases b
  · rfl
  · rw [Bool.true_and, Bool.true_and, Bool.bne_true]
    by_cases c : (i : Int) % 2 = 1
    · rw [decide_eq_true c, decide_eq_false (by omega)]; rfl
    · rw [decide_eq_false c, decide_eq_true (by omega)]; rfl
set_option maxHeartbeats 1000000 in
theorem l_DecimalsPowers (w₀ : World) (ht : Tab10 w₀) (he : Errs w₀) (h : AHeap) (neg : Bool) (v : AVal) (bs : List UInt8) (sc : UInt8) (hb : IsB w₀ h v bs) (hl : bs.length ≤ 9223372036854775807)
    (n : Int) (n0 : -32768 ≤ n) (n1 : n ≤ 32767) (part : UInt8) :
    ACall Tryz.prog w₀ 6 [.agg [.bool neg, v, .int .u8 sc.toNat], .int .i16 n, .int .u8 part.toNat] h (fun x _ => x = .bool true) := by
  refine ACall.mono (R := fun x h' => x = .bool true ∧ h' = h) ?_ fun x h' hx => hx.1
  have hlv := hb.live
  obtain ⟨x, hx⟩ : ∃ d, d = ofN neg bs sc := ⟨_, rfl⟩
  have xv : checkE x = 0 := by rw [hx]; exact ofN_check _ _ _
  obtain ⟨x0, x1⟩ : 0 ≤ x.scale ∧ x.scale ≤ 62 := ⟨(Small_of_check xv).1.s0, (Small_of_check xv).1.s1⟩
  have xd := (Small_of_check xv).2.1
  have xl := (Small_of_check xv).1.l
  have hpt : part.toNat < 256 := UInt8.toNat_lt part
  refine acall_intro (n := 97) (rs := [.tmp 6]) Tryz.func6 rfl rfl rfl rfl (Nat.le_of_ble_eq_true rfl) ?_
  simp only [initSlots]
  -- region 0  law.go:324
  refine awp_rseq [1, 2, 3] (by rfl) fun K hK => ?_
  refine aOps_box (by rfl) (by rfl) (by rfl) fun k0q0 hk0q0 => ?_
  try have hf_0q0 : h k0q0 = none := by first | assumption | (simp only [AHeap.set_none] at hk0q0; simp only [hk0q0])
  skip
  simp (decide := true) only [aOps_nil, ev, absV, absS, putD, Slots.put, Slots.get, Slots.keep, if_true, if_false, true_and, ↓ap_assign, pop_assign, AVal.cells, Nat.zero_add, Nat.reduceAdd]
  repeat (with_reducible refine And.intro ?_ ?_; · first | trivial | omega | (intro hg; simp only [Bool.and_eq_true, Bool.or_eq_true, Bool.not_eq_true', Bool.and_eq_false_iff, Bool.or_eq_false_iff, Bool.not_eq_false', decide_eq_true_eq, decide_eq_false_iff_not, eqNil] at hg; omega) | (simp only [List.length_append, List.length_map, List.length_range, List.length_replicate, List.length_take, List.length_drop, List.length_cons, List.length_nil, List.length_set, List.length_reverse]; omega))
  apply hK; clear hK K
  -- region 1  law.go:325
  refine awp_rseq [1, 2, 7] (by rfl) fun K hK => ?_
  simp (decide := true) only [ev, putD, Slots.put, Slots.get, if_true, if_false, true_and, ↓ap_loadL, apL_mk, pLoad_agg ag24 sz24, rd_any, cellsAt, List.getD_cons_zero, List.getD_cons_succ, Nat.zero_add, Nat.reduceAdd, lv_bool, lv_int, allLive, Bool.and_true, hlv]
  repeat (with_reducible refine And.intro ?_ ?_; · first | trivial | omega | (intro hg; simp only [Bool.and_eq_true, Bool.or_eq_true, Bool.not_eq_true', Bool.and_eq_false_iff, Bool.or_eq_false_iff, Bool.not_eq_false', decide_eq_true_eq, decide_eq_false_iff_not, eqNil] at hg; omega) | (simp only [List.length_append, List.length_map, List.length_range, List.length_replicate, List.length_take, List.length_drop, List.length_cons, List.length_nil, List.length_set, List.length_reverse]; omega))
  refine aOps_callV (V := decA x) (by rfl) (by rfl) ((c_ofN w₀ _ neg v bs sc (hb.mono (by repeat (first | exact Sub.refl _ | refine Sub.trans_set ?_ (by assumption)))) hl).val (by rw [hx])) ?_
  refine aOps_alloc ze27 (cs := [.bool false, .str [], .int .i64 0]) (by rfl) fun k1q2 hk1q2 => ?_
  have ne_1q2_0q0 : k1q2 ≠ k0q0 := by simp only [AHeap.set_none] at hk1q2; simp only [hk1q2, ne_eq, not_false_eq_true]
  try have hf_1q2 : h k1q2 = none := by first | assumption | (simp only [AHeap.set_none] at hk1q2; simp only [hk1q2])
  refine aOps_store (by rfl) (by rfl) (by repeat (first | exact AHeap.set_same _ _ _ | assumption | refine (AHeap.set_ne _ _ (by first | assumption | exact Ne.symm (by assumption))).trans ?_)) sz27 (by rfl) (by rfl) (by first | exact Nat.le_refl _ | decide | (simp; done) | (simp; omega)) (Nat.zero_le _) (by rfl) ?_
  simp only [AHeap.set_set, AVal.cells]
  simp (decide := true) only [aOps_nil, ev, putD, Slots.put, Slots.get, Slots.keep, if_true, if_false, setAt, List.set_cons_zero, List.set_cons_succ, Nat.zero_add, Nat.reduceAdd, decA]
  repeat (with_reducible refine And.intro ?_ ?_; · first | trivial | omega | (intro hg; simp only [Bool.and_eq_true, Bool.or_eq_true, Bool.not_eq_true', Bool.and_eq_false_iff, Bool.or_eq_false_iff, Bool.not_eq_false', decide_eq_true_eq, decide_eq_false_iff_not, eqNil] at hg; omega) | (simp only [List.length_append, List.length_map, List.length_range, List.length_replicate, List.length_take, List.length_drop, List.length_cons, List.length_nil, List.length_set, List.length_reverse]; omega))
  apply hK; clear hK K
  refine awp_seq ?_
  -- region 2  law.go:326
  refine awp_rseq [1, 2, 7, 19] (by rfl) fun K hK => ?_
  simp (decide := true) only [aOps_nil, ev, absV, absS, putD, Slots.put, Slots.get, Slots.keep, if_true, if_false, true_and, ↓ap_fieldAddr, pop_fieldAddr, fa27_1, ↓ap_loadL, apL_mk, pLoad_one ag9, ↓ap_len, pop_len, pLen_str Tryz.underlying9, ↓ap_binOp, pop_binOp, isNilC_int, cond_false, pBinX_int, pI_gtr, rd_any, List.getD_cons_zero, List.getD_cons_succ, Nat.zero_add, lv_str]
  repeat (with_reducible refine And.intro ?_ ?_; · first | trivial | omega | (intro hg; simp only [Bool.and_eq_true, Bool.or_eq_true, Bool.not_eq_true', Bool.and_eq_false_iff, Bool.or_eq_false_iff, Bool.not_eq_false', decide_eq_true_eq, decide_eq_false_iff_not, eqNil] at hg; omega) | (simp only [List.length_append, List.length_map, List.length_range, List.length_replicate, List.length_take, List.length_drop, List.length_cons, List.length_nil, List.length_set, List.length_reverse]; omega))
  apply hK; clear hK K
  refine awp_joinT [1, 2, 7] (fun a : D => [(1, .int .i16 n), (2, .int .u8 part.toNat), (7, .ptr (.own k1q2) 0)]) (fun a : D => (h.set k0q0 ⟨[.bool neg, v, .int .u8 sc.toNat], 0⟩).set k1q2 ⟨[.bool a.neg, .str a.dig, .int .i64 a.scale], 0⟩) (fun a : D => checkE a = 0 ∧ a.dig.length ≤ 12) ?_ ?_
  · refine awp_cond (b := _) rfl (fun hb1 => ?_) (fun hb1 => ?_)
    · try simp only [decide_eq_true_eq] at hb1
      -- region 3  law.go:327
      refine awp_draw_anyT 8 mixed (by kernel_rfl) (by rfl) ?_
      simp only [List.take_succ_cons, List.take_zero, List.drop_succ_cons, List.drop_zero]
      simp (decide := true) only [ev, absV, absS, putD, Slots.put, Slots.get, if_true, if_false, true_and, ↓vp_fieldAddr, pop_fieldAddr, fa27_0, ↓vp_load, pop_load, pLoad_one ag4, fa27_1, pLoad_one ag9, ↓vp_slice, pop_slice, evO, pSliceS_0i Tryz.underlying9, pSliceS, bndA_none, bndA_int, fa27_2, pLoad_one ag3, rd_any, List.getD_cons_zero, List.getD_cons_succ, Nat.zero_add, lv_bool, lv_int, lv_str]
      repeat (with_reducible refine And.intro ?_ ?_; · first | trivial | omega | (intro hg; simp only [Bool.and_eq_true, Bool.or_eq_true, Bool.not_eq_true', Bool.and_eq_false_iff, Bool.or_eq_false_iff, Bool.not_eq_false', decide_eq_true_eq, decide_eq_false_iff_not, eqNil] at hg; omega) | (simp only [List.length_append, List.length_map, List.length_range, List.length_replicate, List.length_take, List.length_drop, List.length_cons, List.length_nil, List.length_set, List.length_reverse]; omega))
      refine vOps_callV (V := decA (canon x.neg (natOf (x.dig.take 12)) x.scale.toNat)) (by rfl) (by rfl) (c_Normal w₀ _ x.neg (x.dig.take 12) x.scale (by rw [List.all_eq_true] at xd ⊢; exact fun b hb => xd b (List.mem_of_mem_take hb)) (by rw [List.length_take]; omega) x0 (by omega)) ?_
      repeat (with_reducible refine And.intro ?_ ?_; · first | trivial | omega | (intro hg; simp only [Bool.and_eq_true, Bool.or_eq_true, Bool.not_eq_true', Bool.and_eq_false_iff, Bool.or_eq_false_iff, Bool.not_eq_false', decide_eq_true_eq, decide_eq_false_iff_not, eqNil] at hg; omega) | (simp only [List.length_append, List.length_map, List.length_range, List.length_replicate, List.length_take, List.length_drop, List.length_cons, List.length_nil, List.length_set, List.length_reverse]; omega))
      try simp only [vOps_nil]
      refine aOps_store (by rfl) (by rfl) (by repeat (first | exact AHeap.set_same _ _ _ | assumption | refine (AHeap.set_ne _ _ (by first | assumption | exact Ne.symm (by assumption))).trans ?_)) sz27 (by rfl) (by rfl) (by first | exact Nat.le_refl _ | decide | (simp; done) | (simp; omega)) (Nat.zero_le _) (by rfl) ?_
      simp only [AHeap.set_set, AVal.cells]
      simp (decide := true) only [aOps_nil, ev, putD, Slots.put, Slots.get, if_true, if_false, setAt, List.set_cons_zero, List.set_cons_succ, Nat.zero_add, Nat.reduceAdd, decA]
      repeat (with_reducible refine And.intro ?_ ?_; · first | trivial | omega | (intro hg; simp only [Bool.and_eq_true, Bool.or_eq_true, Bool.not_eq_true', Bool.and_eq_false_iff, Bool.or_eq_false_iff, Bool.not_eq_false', decide_eq_true_eq, decide_eq_false_iff_not, eqNil] at hg; omega) | (simp only [List.length_append, List.length_map, List.length_range, List.length_replicate, List.length_take, List.length_drop, List.length_cons, List.length_nil, List.length_set, List.length_reverse]; omega))
      try simp only [thenA_normal]
      first
      | exact ⟨canon x.neg (natOf (x.dig.take 12)) x.scale.toNat, rfl, Sub.refl _, cut12_check x.neg xd (by omega)⟩
      | exact ⟨x, rfl, Sub.refl _, xv, by omega⟩
    · try simp only [decide_eq_false_iff_not] at hb1
      refine awp_skip ?_
      try simp only [thenA_normal]
      first
      | exact ⟨canon x.neg (natOf (x.dig.take 12)) x.scale.toNat, rfl, Sub.refl _, cut12_check x.neg xd (by omega)⟩
      | exact ⟨x, rfl, Sub.refl _, xv, by omega⟩
  · clear hx xv x0 x1 xd xl
    clear x
    rintro a ⟨av, al⟩
    obtain ⟨a0, a1⟩ : 0 ≤ a.scale ∧ a.scale ≤ 62 := ⟨(Small_of_check av).1.s0, (Small_of_check av).1.s1⟩
    obtain ⟨m, hm⟩ : ∃ m : Int, m = 10 * n + (part.toNat : Int) % 10 := ⟨_, rfl⟩
    have m0 : -1000000 ≤ m := by omega
    have m1 : m ≤ 1000000 := by omega
    have hmt : ∀ _ : Unit, 10 * n + (part.toNat : Int) % 10 = m := fun _ => hm.symm
    have cv : checkE (canon (decide (m < 0)) m.natAbs 1) = 0 := check_canon _ _ _ (long_canon _ _ _ (Nat.lt_of_le_of_lt (m := 1000000) (by omega) (by decide)) (by decide))
    obtain ⟨p, e, hp⟩ : ∃ p e, powE a (canon (decide (m < 0)) m.natAbs 1) = (p, e) := ⟨_, _, rfl⟩
    -- region 4  law.go:329
    refine awp_rseq [2, 7, 8] (by rfl) fun K hK => ?_
    simp (decide := true) only [aOps_nil, ev, putD, Slots.put, Slots.get, Slots.keep, if_true, if_false, true_and, ↓ap_move, pop_move, ↓ap_convert _ _ _ (es_int Tryz.underlying48 Tryz.underlying3), pop_convert, pConv_int Tryz.underlying48 Tryz.underlying3, ↓ap_assign, pop_assign]
    try simp (disch := omega) only [wrap_i64]
    repeat (with_reducible refine And.intro ?_ ?_; · first | trivial | omega | (intro hg; simp only [Bool.and_eq_true, Bool.or_eq_true, Bool.not_eq_true', Bool.and_eq_false_iff, Bool.or_eq_false_iff, Bool.not_eq_false', decide_eq_true_eq, decide_eq_false_iff_not, eqNil] at hg; omega) | (simp only [List.length_append, List.length_map, List.length_range, List.length_replicate, List.length_take, List.length_drop, List.length_cons, List.length_nil, List.length_set, List.length_reverse]; omega))
    apply hK; clear hK K
    -- region 5  law.go:330
    refine awp_rseq [2, 7, 8, 9] (by rfl) fun K hK => ?_
    simp (decide := true) only [ev, absV, absS, putD, Slots.put, Slots.get, if_true, if_false, true_and, ↓ap_move, pop_move, ↓ap_binOp, pop_binOp, isNilC_tmp, cond_false, pBinX_int, pI_mul, isNilC_int, pI_rem, ↓ap_convert _ _ _ (es_int Tryz.underlying5 Tryz.underlying3), pop_convert, pConv_int Tryz.underlying5 Tryz.underlying3, pI_add]
    try simp (disch := omega) only [Int.tmod_eq_emod_of_nonneg, wrap_i64]
    repeat (with_reducible refine And.intro ?_ ?_; · first | trivial | omega | (intro hg; simp only [Bool.and_eq_true, Bool.or_eq_true, Bool.not_eq_true', Bool.and_eq_false_iff, Bool.or_eq_false_iff, Bool.not_eq_false', decide_eq_true_eq, decide_eq_false_iff_not, eqNil] at hg; omega) | (simp only [List.length_append, List.length_map, List.length_range, List.length_replicate, List.length_take, List.length_drop, List.length_cons, List.length_nil, List.length_set, List.length_reverse]; omega))
    rw [hmt ()]
    refine aOps_callV (V := decA (canon (decide (m < 0)) m.natAbs 1)) (by rfl) (by rfl) (c_of12 w₀ ht _ m 1 m0 m1 (by decide) (by decide)) ?_
    refine aOps_alloc ze27 (cs := [.bool false, .str [], .int .i64 0]) (by rfl) fun k5q7 hk5q7 => ?_
    have ne_5q7_0q0 : k5q7 ≠ k0q0 := by simp only [AHeap.set_none] at hk5q7; simp only [hk5q7, ne_eq, not_false_eq_true]
    have ne_5q7_1q2 : k5q7 ≠ k1q2 := by simp only [AHeap.set_none] at hk5q7; simp only [hk5q7, ne_eq, not_false_eq_true]
    try have hf_5q7 : h k5q7 = none := by first | assumption | (simp only [AHeap.set_none] at hk5q7; simp only [hk5q7])
    refine aOps_store (by rfl) (by rfl) (by repeat (first | exact AHeap.set_same _ _ _ | assumption | refine (AHeap.set_ne _ _ (by first | assumption | exact Ne.symm (by assumption))).trans ?_)) sz27 (by rfl) (by rfl) (by first | exact Nat.le_refl _ | decide | (simp; done) | (simp; omega)) (Nat.zero_le _) (by rfl) ?_
    simp only [AHeap.set_set, AVal.cells]
    simp (decide := true) only [aOps_nil, ev, putD, Slots.put, Slots.get, Slots.keep, if_true, if_false, setAt, List.set_cons_zero, List.set_cons_succ, Nat.zero_add, Nat.reduceAdd, decA]
    repeat (with_reducible refine And.intro ?_ ?_; · first | trivial | omega | (intro hg; simp only [Bool.and_eq_true, Bool.or_eq_true, Bool.not_eq_true', Bool.and_eq_false_iff, Bool.or_eq_false_iff, Bool.not_eq_false', decide_eq_true_eq, decide_eq_false_iff_not, eqNil] at hg; omega) | (simp only [List.length_append, List.length_map, List.length_range, List.length_replicate, List.length_take, List.length_drop, List.length_cons, List.length_nil, List.length_set, List.length_reverse]; omega))
    apply hK; clear hK K
    -- region 6  law.go:331
    refine awp_rseq [2, 7, 8, 10, 11] (by rfl) fun K hK => ?_
    simp (decide := true) only [ev, putD, Slots.put, Slots.get, if_true, if_false, true_and, ↓ap_loadL, apL_mk, pLoad_agg ag27 sz27, rd_ne', ne_eq, not_false_eq_true, ne_5q7_1q2.symm, rd_any, cellsAt, List.getD_cons_zero, List.getD_cons_succ, Nat.zero_add, Nat.reduceAdd, lv_bool, lv_int, lv_str, allLive, Bool.and_true]
    repeat (with_reducible refine And.intro ?_ ?_; · first | trivial | omega | (intro hg; simp only [Bool.and_eq_true, Bool.or_eq_true, Bool.not_eq_true', Bool.and_eq_false_iff, Bool.or_eq_false_iff, Bool.not_eq_false', decide_eq_true_eq, decide_eq_false_iff_not, eqNil] at hg; omega) | (simp only [List.length_append, List.length_map, List.length_range, List.length_replicate, List.length_take, List.length_drop, List.length_cons, List.length_nil, List.length_set, List.length_reverse]; omega))
    refine aOps_callV (V := .tuple [decA p, .int .i64 e]) (by rfl) (by rfl) ((c_Pow w₀ he _ a (canon (decide (m < 0)) m.natAbs 1) (check_len av) (check_len cv)).val (by rw [hp])) ?_
    simp (decide := true) only [ev, putD, Slots.put, Slots.get, if_true, if_false, true_and, ↓ap_move, pop_move, ↓ap_extract, pop_extract, pExt_tuple, List.length_cons, List.length_nil, List.getD_cons_zero, List.getD_cons_succ, List.getD_cons_zero, List.getD_cons_succ, Nat.zero_add, Nat.reduceAdd, decA]
    repeat (with_reducible refine And.intro ?_ ?_; · first | trivial | omega | (intro hg; simp only [Bool.and_eq_true, Bool.or_eq_true, Bool.not_eq_true', Bool.and_eq_false_iff, Bool.or_eq_false_iff, Bool.not_eq_false', decide_eq_true_eq, decide_eq_false_iff_not, eqNil] at hg; omega) | (simp only [List.length_append, List.length_map, List.length_range, List.length_replicate, List.length_take, List.length_drop, List.length_cons, List.length_nil, List.length_set, List.length_reverse]; omega))
    refine aOps_alloc ze27 (cs := [.bool false, .str [], .int .i64 0]) (by rfl) fun k6q6 hk6q6 => ?_
    have ne_6q6_0q0 : k6q6 ≠ k0q0 := by simp only [AHeap.set_none] at hk6q6; simp only [hk6q6, ne_eq, not_false_eq_true]
    have ne_6q6_1q2 : k6q6 ≠ k1q2 := by simp only [AHeap.set_none] at hk6q6; simp only [hk6q6, ne_eq, not_false_eq_true]
    have ne_6q6_5q7 : k6q6 ≠ k5q7 := by simp only [AHeap.set_none] at hk6q6; simp only [hk6q6, ne_eq, not_false_eq_true]
    try have hf_6q6 : h k6q6 = none := by first | assumption | (simp only [AHeap.set_none] at hk6q6; simp only [hk6q6])
    refine aOps_store (by rfl) (by rfl) (by repeat (first | exact AHeap.set_same _ _ _ | assumption | refine (AHeap.set_ne _ _ (by first | assumption | exact Ne.symm (by assumption))).trans ?_)) sz27 (by rfl) (by rfl) (by first | exact Nat.le_refl _ | decide | (simp; done) | (simp; omega)) (Nat.zero_le _) (by rfl) ?_
    simp only [AHeap.set_set, AVal.cells]
    simp (decide := true) only [aOps_nil, ev, putD, Slots.put, Slots.get, Slots.keep, if_true, if_false, true_and, ↓ap_assign, pop_assign, setAt, List.set_cons_zero, List.set_cons_succ, Nat.zero_add, Nat.reduceAdd]
    repeat (with_reducible refine And.intro ?_ ?_; · first | trivial | omega | (intro hg; simp only [Bool.and_eq_true, Bool.or_eq_true, Bool.not_eq_true', Bool.and_eq_false_iff, Bool.or_eq_false_iff, Bool.not_eq_false', decide_eq_true_eq, decide_eq_false_iff_not, eqNil] at hg; omega) | (simp only [List.length_append, List.length_map, List.length_range, List.length_replicate, List.length_take, List.length_drop, List.length_cons, List.length_nil, List.length_set, List.length_reverse]; omega))
    apply hK; clear hK K
    refine awp_seq ?_
    -- region 7  law.go:332
    refine awp_rseq [7, 8, 10, 11, 45] (by rfl) fun K hK => ?_
    simp (decide := true) only [aOps_nil, ev, absV, absS, putD, Slots.put, Slots.get, Slots.keep, if_true, if_false, true_and, ↓ap_move, pop_move, ↓ap_binOp, pop_binOp, isNilC_int, cond_false, pBinX_int, pI_rem, pI_gtr]
    try simp (disch := omega) only [Int.tmod_eq_emod_of_nonneg]
    repeat (with_reducible refine And.intro ?_ ?_; · first | trivial | omega | (intro hg; simp only [Bool.and_eq_true, Bool.or_eq_true, Bool.not_eq_true', Bool.and_eq_false_iff, Bool.or_eq_false_iff, Bool.not_eq_false', decide_eq_true_eq, decide_eq_false_iff_not, eqNil] at hg; omega) | (simp only [List.length_append, List.length_map, List.length_range, List.length_replicate, List.length_take, List.length_drop, List.length_cons, List.length_nil, List.length_set, List.length_reverse]; omega))
    apply hK; clear hK K
    refine awp_cond (b := _) rfl (fun hb2 => ?_) (fun hb2 => ?_)
    · try simp only [decide_eq_true_eq] at hb2
      have hq : powE a (canon (decide (m < 0)) m.natAbs 1) = (noD, 12) := by
        rw [powE, if_pos ⟨av, cv⟩, (exp_part (m := m) (by omega) (Nat.lt_of_le_of_lt (m := 1000000) (by omega) (by decide))).1, if_pos rfl]
      rw [hp] at hq
      obtain ⟨q1, q2⟩ := Prod.mk.inj hq
      subst q1 q2
      -- region 8  law.go:333
      refine awp_rseq [6] (by rfl) fun K hK => ?_
      simp (decide := true) only [ev, absV, absS, putD, Slots.put, Slots.get, if_true, if_false, true_and, ↓ap_move, pop_move, ↓ap_binOp, pop_binOp, isNilC_int, cond_false, pBinX_int, pI_eql, ↓ag_loadL, agQL_some, agL_mk, agP, agQ_some, nthDst, gKnown_bool, guardB_bool_true, implies_true, decide_true, condV_true, Bool.and_true, Bool.true_and, pLoad_agg ag27 sz27, ↓ag_build, ↓pop_buildL, bld27_, evP, List.map_nil, ↓ag_binOp, isNilC_tmp, pBinX_agg, eq27, ↓ap_pick, pop_pick, pPick_bool, pickV_and, rd_any, cellsAt, List.getD_cons_zero, List.getD_cons_succ, Nat.zero_add, Nat.reduceAdd, lv_bool, lv_int, lv_str, allLive, Bool.and_true]
      repeat (with_reducible refine And.intro ?_ ?_; · first | trivial | omega | (intro hg; simp only [Bool.and_eq_true, Bool.or_eq_true, Bool.not_eq_true', Bool.and_eq_false_iff, Bool.or_eq_false_iff, Bool.not_eq_false', decide_eq_true_eq, decide_eq_false_iff_not, eqNil] at hg; omega) | (simp only [List.length_append, List.length_map, List.length_range, List.length_replicate, List.length_take, List.length_drop, List.length_cons, List.length_nil, List.length_set, List.length_reverse]; omega))
      first
      | (refine aOps_yes (by rfl) ?_; refine aOps_callV (V := .bool true) (by rfl) (by rfl) (c_lives12 w₀ ht he _) ?_)
      | (refine aOps_gcall (V := .bool true) (f := _) (cap := _) (xs := _) rfl (fun hg => ⟨rfl, ?_⟩) (fun hg => c_lives12 w₀ ht he _) ?_; · (simp (decide := true) only [gv, nthDst, Slots.get, if_true, if_false, guardB_bool_true, guardB_bool_false, guardB_cond, Bool.not_not] at hg; simp (decide := true) only [evs, ev, Slots.get, if_true, if_false, hg, condV_true, List.append_nil, List.map_cons, List.map_nil, absV, absS] <;> try rfl))
      simp (decide := true) only [aOps_nil, ev, absV, absS, putD, Slots.put, Slots.get, Slots.keep, if_true, if_false, true_and, ↓ap_pick, pop_pick, pPick_bool, pickV_and, ↓ap_assign, pop_assign, Bool.and_true]
      repeat (with_reducible refine And.intro ?_ ?_; · first | trivial | omega | (intro hg; simp only [Bool.and_eq_true, Bool.or_eq_true, Bool.not_eq_true', Bool.and_eq_false_iff, Bool.or_eq_false_iff, Bool.not_eq_false', decide_eq_true_eq, decide_eq_false_iff_not, eqNil] at hg; omega) | (simp only [List.length_append, List.length_map, List.length_range, List.length_replicate, List.length_take, List.length_drop, List.length_cons, List.length_nil, List.length_set, List.length_reverse]; omega))
      apply hK; clear hK K
      refine awp_ret ?_
      try simp only [thenA_ret]
      refine retA_ret h (by repeat (first | exact Sub.refl _ | assumption | refine Sub.trans_set ?_ (by assumption))) (resPre_tmp (resPre_nil)) ?_
      simp (decide := true) only [Slots.get, if_true, and_true, resOf_one]
      all_goals first | rfl | exact ⟨rfl, rfl⟩ | (simp (decide := true) only [if_true, if_false, *]; done) | (trace_state; fail)
    · try simp only [decide_eq_false_iff_not] at hb2
      have hm0 : m = 10 * n := by omega
      subst hm0
      have hti := (exp_int n (by omega) (by omega)).1
      refine awp_skip ?_
      change Awp _ _ _ _ _ _ _
      refine awp_seq ?_
      -- region 9  law.go:335
      refine awp_rseq [7, 8, 10, 11, 61] (by rfl) fun K hK => ?_
      simp (decide := true) only [aOps_nil, ev, absV, absS, putD, Slots.put, Slots.get, Slots.keep, if_true, if_false, true_and, ↓ap_move, pop_move, ↓ap_binOp, pop_binOp, isNilC_int, cond_false, pBinX_int, pI_lss, ↓ag_move, agP, agQ_some, nthDst, gKnown_bool, guardB_bool_false, implies_true, ↓ag_binOp, cv_binl, cp_binl, pI_gtr, ↓ap_pick, pop_pick, pPick_bool, pickV_cond_r, pickV_or]
      repeat (with_reducible refine And.intro ?_ ?_; · first | trivial | omega | (intro hg; simp only [Bool.and_eq_true, Bool.or_eq_true, Bool.not_eq_true', Bool.and_eq_false_iff, Bool.or_eq_false_iff, Bool.not_eq_false', decide_eq_true_eq, decide_eq_false_iff_not, eqNil] at hg; omega) | (simp only [List.length_append, List.length_map, List.length_range, List.length_replicate, List.length_take, List.length_drop, List.length_cons, List.length_nil, List.length_set, List.length_reverse]; omega))
      apply hK; clear hK K
      refine awp_cond (b := _) rfl (fun hb3 => ?_) (fun hb3 => ?_)
      · try simp only [decide_eq_true_eq, Bool.or_eq_true] at hb3
        have hq : powE a (canon (decide (10 * n < 0)) (10 * n).natAbs 1) = (noD, 13) := by
          rw [powE, if_pos ⟨av, cv⟩, hti, if_neg (show ¬ (0 : Int) = 12 by decide), if_pos (by rcases hb3 with q | q; exact .inr (.inl q); exact .inr (.inr q))]
        rw [hp] at hq
        obtain ⟨q1, q2⟩ := Prod.mk.inj hq
        subst q1 q2
        -- region 10  law.go:336
        refine awp_rseq [6] (by rfl) fun K hK => ?_
        simp (decide := true) only [ev, absV, absS, putD, Slots.put, Slots.get, if_true, if_false, true_and, ↓ap_move, pop_move, ↓ap_binOp, pop_binOp, isNilC_int, cond_false, pBinX_int, pI_eql, ↓ag_loadL, agQL_some, agL_mk, agP, agQ_some, nthDst, gKnown_bool, guardB_bool_true, implies_true, decide_true, condV_true, Bool.and_true, Bool.true_and, pLoad_agg ag27 sz27, ↓ag_build, ↓pop_buildL, bld27_, evP, List.map_nil, ↓ag_binOp, isNilC_tmp, pBinX_agg, eq27, ↓ap_pick, pop_pick, pPick_bool, pickV_and, rd_any, cellsAt, List.getD_cons_zero, List.getD_cons_succ, Nat.zero_add, Nat.reduceAdd, lv_bool, lv_int, lv_str, allLive, Bool.and_true]
        repeat (with_reducible refine And.intro ?_ ?_; · first | trivial | omega | (intro hg; simp only [Bool.and_eq_true, Bool.or_eq_true, Bool.not_eq_true', Bool.and_eq_false_iff, Bool.or_eq_false_iff, Bool.not_eq_false', decide_eq_true_eq, decide_eq_false_iff_not, eqNil] at hg; omega) | (simp only [List.length_append, List.length_map, List.length_range, List.length_replicate, List.length_take, List.length_drop, List.length_cons, List.length_nil, List.length_set, List.length_reverse]; omega))
        first
        | (refine aOps_yes (by rfl) ?_; refine aOps_callV (V := .bool true) (by rfl) (by rfl) (c_lives12 w₀ ht he _) ?_)
        | (refine aOps_gcall (V := .bool true) (f := _) (cap := _) (xs := _) rfl (fun hg => ⟨rfl, ?_⟩) (fun hg => c_lives12 w₀ ht he _) ?_; · (simp (decide := true) only [gv, nthDst, Slots.get, if_true, if_false, guardB_bool_true, guardB_bool_false, guardB_cond, Bool.not_not] at hg; simp (decide := true) only [evs, ev, Slots.get, if_true, if_false, hg, condV_true, List.append_nil, List.map_cons, List.map_nil, absV, absS] <;> try rfl))
        simp (decide := true) only [aOps_nil, ev, absV, absS, putD, Slots.put, Slots.get, Slots.keep, if_true, if_false, true_and, ↓ap_pick, pop_pick, pPick_bool, pickV_and, ↓ap_assign, pop_assign, Bool.and_true]
        repeat (with_reducible refine And.intro ?_ ?_; · first | trivial | omega | (intro hg; simp only [Bool.and_eq_true, Bool.or_eq_true, Bool.not_eq_true', Bool.and_eq_false_iff, Bool.or_eq_false_iff, Bool.not_eq_false', decide_eq_true_eq, decide_eq_false_iff_not, eqNil] at hg; omega) | (simp only [List.length_append, List.length_map, List.length_range, List.length_replicate, List.length_take, List.length_drop, List.length_cons, List.length_nil, List.length_set, List.length_reverse]; omega))
        apply hK; clear hK K
        refine awp_ret ?_
        try simp only [thenA_ret]
        refine retA_ret h (by repeat (first | exact Sub.refl _ | assumption | refine Sub.trans_set ?_ (by assumption))) (resPre_tmp (resPre_nil)) ?_
        simp (decide := true) only [Slots.get, if_true, and_true, resOf_one]
        all_goals first | rfl | exact ⟨rfl, rfl⟩ | (simp (decide := true) only [if_true, if_false, *]; done) | (trace_state; fail)
      · try simp only [decide_eq_false_iff_not, Bool.or_eq_false_iff] at hb3
        obtain ⟨k0, k99⟩ : 0 ≤ n ∧ n ≤ 99 := by omega
        have hsk : 0 ≤ a.scale * n ∧ a.scale * n ≤ 6138 := ⟨Int.mul_nonneg a0 k0, by have := Int.mul_le_mul a1 k99 k0 (by decide); omega⟩
        have hq : powE a (canon (decide (10 * n < 0)) (10 * n).natAbs 1) = resE (canon (a.neg && decide (n % 2 = 1)) (natOf a.dig ^ n.toNat) (a.scale * n).toNat) := by
          rw [powE, if_pos ⟨av, cv⟩, hti, if_neg (show ¬ (0 : Int) = 12 by decide), if_neg (by simp only; omega), normE, show (-(a.scale * n)).toNat = 0 by omega, Nat.pow_zero, Nat.mul_one]
        rw [hp] at hq
        have ewk : IntKind.i64.wrap (a.scale * n) = a.scale * n := wrap_i64 (by omega) (by omega)
        refine awp_skip ?_
        change Awp _ _ _ _ _ _ _
        -- region 11  law.go:338
        refine awp_rseq [7, 8, 10, 11, 12] (by rfl) fun K hK => ?_
        refine aOps_buildSlice (cs := intCells [1]) (by kernel_rfl) fun k11q0 hk11q0 => ?_
        have ne_11q0_0q0 : k11q0 ≠ k0q0 := by simp only [AHeap.set_none] at hk11q0; simp only [hk11q0, ne_eq, not_false_eq_true]
        have ne_11q0_1q2 : k11q0 ≠ k1q2 := by simp only [AHeap.set_none] at hk11q0; simp only [hk11q0, ne_eq, not_false_eq_true]
        have ne_11q0_5q7 : k11q0 ≠ k5q7 := by simp only [AHeap.set_none] at hk11q0; simp only [hk11q0, ne_eq, not_false_eq_true]
        have ne_11q0_6q6 : k11q0 ≠ k6q6 := by simp only [AHeap.set_none] at hk11q0; simp only [hk11q0, ne_eq, not_false_eq_true]
        try have hf_11q0 : h k11q0 = none := by first | assumption | (simp only [AHeap.set_none] at hk11q0; simp only [hk11q0])
        simp (decide := true) only [ev, absV, absS, putD, Slots.put, Slots.get, if_true, if_false, true_and, ↓ap_build, ↓pop_buildL, bld40_1, evP, List.map_cons, List.map_nil, Sc_slice]
        repeat (with_reducible refine And.intro ?_ ?_; · first | trivial | omega | (intro hg; simp only [Bool.and_eq_true, Bool.or_eq_true, Bool.not_eq_true', Bool.and_eq_false_iff, Bool.or_eq_false_iff, Bool.not_eq_false', decide_eq_true_eq, decide_eq_false_iff_not, eqNil] at hg; omega) | (simp only [List.length_append, List.length_map, List.length_range, List.length_replicate, List.length_take, List.length_drop, List.length_cons, List.length_nil, List.length_set, List.length_reverse]; omega))
        refine aOps_alloc ze40 (cs := [.bool false, .nilSlice]) (by rfl) fun k11q2 hk11q2 => ?_
        have ne_11q2_0q0 : k11q2 ≠ k0q0 := by simp only [AHeap.set_none] at hk11q2; simp only [hk11q2, ne_eq, not_false_eq_true]
        have ne_11q2_1q2 : k11q2 ≠ k1q2 := by simp only [AHeap.set_none] at hk11q2; simp only [hk11q2, ne_eq, not_false_eq_true]
        have ne_11q2_5q7 : k11q2 ≠ k5q7 := by simp only [AHeap.set_none] at hk11q2; simp only [hk11q2, ne_eq, not_false_eq_true]
        have ne_11q2_6q6 : k11q2 ≠ k6q6 := by simp only [AHeap.set_none] at hk11q2; simp only [hk11q2, ne_eq, not_false_eq_true]
        have ne_11q2_11q0 : k11q2 ≠ k11q0 := by simp only [AHeap.set_none] at hk11q2; simp only [hk11q2, ne_eq, not_false_eq_true]
        try have hf_11q2 : h k11q2 = none := by first | assumption | (simp only [AHeap.set_none] at hk11q2; simp only [hk11q2])
        refine aOps_store (by rfl) (by rfl) (by repeat (first | exact AHeap.set_same _ _ _ | assumption | refine (AHeap.set_ne _ _ (by first | assumption | exact Ne.symm (by assumption))).trans ?_)) sz40 (by rfl) (by rfl) (by first | exact Nat.le_refl _ | decide | (simp; done) | (simp; omega)) (Nat.zero_le _) (by rfl) ?_
        simp only [AHeap.set_set, AVal.cells]
        simp (decide := true) only [aOps_nil, ev, putD, Slots.put, Slots.get, Slots.keep, if_true, if_false, setAt, List.set_cons_zero, List.set_cons_succ, Nat.zero_add]
        repeat (with_reducible refine And.intro ?_ ?_; · first | trivial | omega | (intro hg; simp only [Bool.and_eq_true, Bool.or_eq_true, Bool.not_eq_true', Bool.and_eq_false_iff, Bool.or_eq_false_iff, Bool.not_eq_false', decide_eq_true_eq, decide_eq_false_iff_not, eqNil] at hg; omega) | (simp only [List.length_append, List.length_map, List.length_range, List.length_replicate, List.length_take, List.length_drop, List.length_cons, List.length_nil, List.length_set, List.length_reverse]; omega))
        apply hK; clear hK K
        refine awp_seq ?_
        -- region 12  law.go:339
        refine awp_rseq [7, 8, 10, 11, 12, 13] (by rfl) fun K hK => ?_
        simp (decide := true) only [aOps_nil, ev, absV, absS, putD, Slots.put, Slots.keep, if_true, if_false, true_and, ↓ap_assign, pop_assign]
        repeat (with_reducible refine And.intro ?_ ?_; · first | trivial | omega | (intro hg; simp only [Bool.and_eq_true, Bool.or_eq_true, Bool.not_eq_true', Bool.and_eq_false_iff, Bool.or_eq_false_iff, Bool.not_eq_false', decide_eq_true_eq, decide_eq_false_iff_not, eqNil] at hg; omega) | (simp only [List.length_append, List.length_map, List.length_range, List.length_replicate, List.length_take, List.length_drop, List.length_cons, List.length_nil, List.length_set, List.length_reverse]; omega))
        apply hK; clear hK K
        refine awp_block ?_
        refine awp_loopG [7, 8, 10, 11, 12, 13] (fun g : PowG => [(7, .ptr (.own k1q2) 0), (8, .int .i64 n), (10, .ptr (.own k6q6) 0), (11, .int .i64 e), (12, .ptr (.own k11q2) 0), (13, .int .i64 g.i)]) (fun g : PowG => g.H) (fun g : PowG => PowOk h a p e n k1q2 k6q6 k11q2 g) (fun g : PowG => n.toNat + 1 - g.i) ⟨0, false, .slice (.own k11q0) 0 1 (.exact 1), [1], _⟩ (by rfl) (Sub.refl _) ⟨by omega, by simp, .inr ⟨k11q0, .exact 1, rfl, (by repeat (first | exact AHeap.set_same _ _ _ | assumption | refine (AHeap.set_ne _ _ (by first | assumption | exact Ne.symm (by assumption))).trans ?_))⟩, by simp [digZ], by simp [leV, valL], by simp, (by repeat (first | exact Sub.refl _ | assumption | refine Sub.trans_set ?_ (by assumption))), (by repeat (first | exact AHeap.set_same _ _ _ | assumption | refine (AHeap.set_ne _ _ (by first | assumption | exact Ne.symm (by assumption))).trans ?_)), (by repeat (first | exact AHeap.set_same _ _ _ | assumption | refine (AHeap.set_ne _ _ (by first | assumption | exact Ne.symm (by assumption))).trans ?_)), (by repeat (first | exact AHeap.set_same _ _ _ | assumption | refine (AHeap.set_ne _ _ (by first | assumption | exact Ne.symm (by assumption))).trans ?_))⟩ ?_
        rintro ⟨i, wn, wz, o, H⟩ ⟨le, sign, hz, dig, val, len, hs_H, eb_1q2, eb_6q6, eb_11q2⟩
        dsimp only at le sign hz dig val len hs_H eb_1q2 eb_6q6 eb_11q2 ⊢
        have lz := hz.live
        refine awp_seq ?_
        -- region 13  law.go:339
        refine awp_rseq [7, 8, 10, 11, 12, 13, 76] (by rfl) fun K hK => ?_
        simp (decide := true) only [aOps_nil, ev, putD, Slots.put, Slots.get, Slots.keep, if_true, if_false, true_and, ↓ap_move, pop_move, ↓ap_binOp, pop_binOp, isNilC_tmp, cond_false, pBinX_int, pI_lss]
        repeat (with_reducible refine And.intro ?_ ?_; · first | trivial | omega | (intro hg; simp only [Bool.and_eq_true, Bool.or_eq_true, Bool.not_eq_true', Bool.and_eq_false_iff, Bool.or_eq_false_iff, Bool.not_eq_false', decide_eq_true_eq, decide_eq_false_iff_not, eqNil] at hg; omega) | (simp only [List.length_append, List.length_map, List.length_range, List.length_replicate, List.length_take, List.length_drop, List.length_cons, List.length_nil, List.length_set, List.length_reverse]; omega))
        apply hK; clear hK K
        refine awp_cond (b := _) rfl (fun hb4 => ?_) (fun hb4 => ?_)
        · try simp only [decide_eq_true_eq] at hb4
          refine awp_skip ?_
          change Awp _ _ _ _ _ _ _
          refine awp_seq ?_
          refine awp_block ?_
          -- region 15  law.go:340
          refine awp_draw_H [0, 1, 2, 3, 4, 5, 6] [none, none, none, none, none, some 4, some 5] 6 mixed (by kernel_rfl) (by rfl) ?_
          simp only [permL, List.filterMap_cons, List.filterMap_nil, List.getElem?_cons_zero, List.getElem?_cons_succ]
          simp (decide := true) only [aOps_nil, ev, putD, Slots.put, Slots.get, if_true, if_false, true_and, hOps_cons, hOps_zero, Sub_self, ↓ap_loadL, apL_mk, pLoad_agg ag40 sz40, pLoad_agg ag27 sz27, ↓ap_fieldAddr, pop_fieldAddr, fa27_2, pLoad_one ag3, rd_own w₀ eb_1q2, rd_own w₀ eb_11q2, cellsAt, List.getD_cons_zero, List.getD_cons_succ, Nat.zero_add, Nat.reduceAdd, lv_bool, lv_int, lv_str, allLive, Bool.and_true, lz]
          repeat (with_reducible refine And.intro ?_ ?_; · first | trivial | omega | (intro hg; simp only [Bool.and_eq_true, Bool.or_eq_true, Bool.not_eq_true', Bool.and_eq_false_iff, Bool.or_eq_false_iff, Bool.not_eq_false', decide_eq_true_eq, decide_eq_false_iff_not, eqNil] at hg; omega) | (simp only [List.length_append, List.length_map, List.length_range, List.length_replicate, List.length_take, List.length_drop, List.length_cons, List.length_nil, List.length_set, List.length_reverse]; omega))
          refine aOps_call (by rfl) (by rfl) (c_whole w₀ _ a av a.scale (by omega) (by omega)) fun x15q4 h15q4 hx15q4 => ?_
          obtain ⟨⟨z4, rfl, hz4⟩, hs4⟩ := hx15q4
          have lz4 := hz4.live
          have hlA : (List.replicate (a.scale - a.scale).toNat 0 ++ digs a.dig).length ≤ 12 := by
            rw [List.length_append, List.length_replicate, digs_length]
            omega
          have hr_h15q4 : Sub H h15q4 := Sub.trans (by repeat (first | exact Sub.refl _ | assumption | refine Sub.trans_set ?_ (by assumption))) hs4
          have hs_h15q4 : Sub h h15q4 := Sub.trans hs_H hr_h15q4
          replace eb_1q2 := hs4 k1q2 _ (by repeat (first | exact AHeap.set_same _ _ _ | assumption | refine (AHeap.set_ne _ _ (by first | assumption | exact Ne.symm (by assumption))).trans ?_))
          replace eb_6q6 := hs4 k6q6 _ (by repeat (first | exact AHeap.set_same _ _ _ | assumption | refine (AHeap.set_ne _ _ (by first | assumption | exact Ne.symm (by assumption))).trans ?_))
          replace eb_11q2 := hs4 k11q2 _ (by repeat (first | exact AHeap.set_same _ _ _ | assumption | refine (AHeap.set_ne _ _ (by first | assumption | exact Ne.symm (by assumption))).trans ?_))
          rw [aOps_nil]
          refine And.intro (by first | exact Sub.refl _ | assumption | exact Sub.set (by assumption)) ?_
          simp (decide := true) only [putD, Slots.put, if_false]
          repeat (with_reducible refine And.intro ?_ ?_; · first | trivial | omega | (intro hg; simp only [Bool.and_eq_true, Bool.or_eq_true, Bool.not_eq_true', Bool.and_eq_false_iff, Bool.or_eq_false_iff, Bool.not_eq_false', decide_eq_true_eq, decide_eq_false_iff_not, eqNil] at hg; omega) | (simp only [List.length_append, List.length_map, List.length_range, List.length_replicate, List.length_take, List.length_drop, List.length_cons, List.length_nil, List.length_set, List.length_reverse]; omega))
          refine aOps_call (by rfl) (by rfl) (c_mul w₀ _ wn a.neg wz z4 o (List.replicate (a.scale - a.scale).toNat 0 ++ digs a.dig) ((hz.sub hr_h15q4).sub (by repeat (first | exact Sub.refl _ | assumption | refine Sub.trans_set ?_ (by assumption)))) (hz4.sub (by repeat (first | exact Sub.refl _ | assumption | refine Sub.trans_set ?_ (by assumption)))) dig (whole_digZ av _) (by omega)) fun x15q5 h15q5 hx15q5 => ?_
          obtain ⟨⟨z6, o6, rfl, hz6, hd6, hv6, hl6⟩, hs6⟩ := hx15q5
          have lz6 := hz6.live
          have hr_h15q5 : Sub h15q4 h15q5 := Sub.trans (by repeat (first | exact Sub.refl _ | assumption | refine Sub.trans_set ?_ (by assumption))) hs6
          have hs_h15q5 : Sub h h15q5 := Sub.trans hs_h15q4 hr_h15q5
          replace eb_1q2 := hs6 k1q2 _ (by repeat (first | exact AHeap.set_same _ _ _ | assumption | refine (AHeap.set_ne _ _ (by first | assumption | exact Ne.symm (by assumption))).trans ?_))
          replace eb_6q6 := hs6 k6q6 _ (by repeat (first | exact AHeap.set_same _ _ _ | assumption | refine (AHeap.set_ne _ _ (by first | assumption | exact Ne.symm (by assumption))).trans ?_))
          replace eb_11q2 := hs6 k11q2 _ (by repeat (first | exact AHeap.set_same _ _ _ | assumption | refine (AHeap.set_ne _ _ (by first | assumption | exact Ne.symm (by assumption))).trans ?_))
          rw [aOps_nil]
          refine And.intro (by first | exact Sub.refl _ | assumption | exact Sub.set (by assumption)) ?_
          simp (decide := true) only [putD, Slots.put, if_false]
          repeat (with_reducible refine And.intro ?_ ?_; · first | trivial | omega | (intro hg; simp only [Bool.and_eq_true, Bool.or_eq_true, Bool.not_eq_true', Bool.and_eq_false_iff, Bool.or_eq_false_iff, Bool.not_eq_false', decide_eq_true_eq, decide_eq_false_iff_not, eqNil] at hg; omega) | (simp only [List.length_append, List.length_map, List.length_range, List.length_replicate, List.length_take, List.length_drop, List.length_cons, List.length_nil, List.length_set, List.length_reverse]; omega))
          refine aOps_store (v := .agg [.bool (wn != a.neg), z6]) (by rfl) (by rfl) eb_11q2 sz40 (by rfl) (by rfl) (Nat.le_refl _) (Nat.zero_le _) (scal_big hz6.scal) ?_
          simp only [setAt, AVal.cells, List.length_nil, List.set_cons_zero, List.set_cons_succ, Nat.zero_add]
          simp (decide := true) only [aOps_nil, putD]
          repeat (with_reducible refine And.intro ?_ ?_; · first | trivial | omega | (intro hg; simp only [Bool.and_eq_true, Bool.or_eq_true, Bool.not_eq_true', Bool.and_eq_false_iff, Bool.or_eq_false_iff, Bool.not_eq_false', decide_eq_true_eq, decide_eq_false_iff_not, eqNil] at hg; omega) | (simp only [List.length_append, List.length_map, List.length_range, List.length_replicate, List.length_take, List.length_drop, List.length_cons, List.length_nil, List.length_set, List.length_reverse]; omega))
          change Awp _ _ _ _ _ _ _
          -- region 14  law.go:339
          refine awp_r [7, 8, 10, 11, 12, 13] (by rfl) ?_
          simp (decide := true) only [aOps_nil, ev, absV, absS, putD, Slots.put, Slots.get, Slots.keep, if_true, if_false, true_and, ↓ap_move, pop_move, ↓ap_binOp, pop_binOp, isNilC_int, cond_false, pBinX_int, pI_add, ↓ap_assign, pop_assign]
          try simp (disch := omega) only [wrap_i64]
          repeat (with_reducible refine And.intro ?_ ?_; · first | trivial | omega | (intro hg; simp only [Bool.and_eq_true, Bool.or_eq_true, Bool.not_eq_true', Bool.and_eq_false_iff, Bool.or_eq_false_iff, Bool.not_eq_false', decide_eq_true_eq, decide_eq_false_iff_not, eqNil] at hg; omega) | (simp only [List.length_append, List.length_map, List.length_range, List.length_replicate, List.length_take, List.length_drop, List.length_cons, List.length_nil, List.length_set, List.length_reverse]; omega))
          try simp only [thenA_normal]
          refine ⟨⟨i + 1, wn != a.neg, z6, o6, h15q5.set k11q2 ⟨[.bool (wn != a.neg), z6], 0⟩⟩, rfl, Sub.refl _, ⟨by dsimp only; omega, by dsimp only; rw [sign, odd_next], hz6.set_bool eb_11q2 _, hd6, ?_, by dsimp only; omega, Sub.trans_set hs_h15q5 hf_11q2, (AHeap.set_ne _ _ ne_11q2_1q2.symm).trans eb_1q2, (AHeap.set_ne _ _ ne_11q2_6q6.symm).trans eb_6q6, AHeap.set_same _ _ _⟩, by dsimp only; omega⟩
          dsimp only
          rw [hv6, val, whole_self, Nat.pow_succ]
          push_cast
          rfl
        · try simp only [decide_eq_false_iff_not] at hb4
          have hin : n.toNat = i := by omega
          have hin' : (i : Int) = n := by omega
          rw [hin'] at sign
          refine awp_exit ?_
          change Awp _ _ _ _ _ _ _
          -- region 16  law.go:342
          refine awp_dseq_any [6] mixed (by kernel_rfl) (by rfl) fun K hK => ?_
          simp (decide := true) only [ev, putD, Slots.put, Slots.get, if_true, if_false, true_and, ↓vp_load, pop_load, pLoad_agg ag27 sz27, ↓vp_move, pop_move, pLoad_agg ag40 sz40, ↓vp_fieldAddr, pop_fieldAddr, fa27_2, pLoad_one ag3, ↓vp_binOp, pop_binOp, isNilC_tmp, cond_false, pBinX_int, pI_mul, rd_own w₀ eb_1q2, rd_own w₀ eb_6q6, rd_own w₀ eb_11q2, cellsAt, List.getD_cons_zero, List.getD_cons_succ, Nat.zero_add, Nat.reduceAdd, lv_bool, lv_int, lv_str, allLive, Bool.and_true, lz, ewk]
          try simp (disch := omega) only [Int.tmod_eq_emod_of_nonneg, Int.tdiv_eq_ediv_of_nonneg, wrap_i64, wrap_u8]
          repeat (with_reducible refine And.intro ?_ ?_; · first | trivial | omega | (intro hg; simp only [Bool.and_eq_true, Bool.or_eq_true, Bool.not_eq_true', Bool.and_eq_false_iff, Bool.or_eq_false_iff, Bool.not_eq_false', decide_eq_true_eq, decide_eq_false_iff_not, eqNil] at hg; omega) | (simp only [List.length_append, List.length_map, List.length_range, List.length_replicate, List.length_take, List.length_drop, List.length_cons, List.length_nil, List.length_set, List.length_reverse]; omega))
          refine vOps_callV (V := decA (canon (a.neg && decide (n % 2 = 1)) (natOf a.dig ^ n.toNat) (a.scale * n).toNat)) (by rfl) (by rfl) ((c_number12 w₀ _ wn wz o (hz.sub (by repeat (first | exact Sub.refl _ | assumption | refine Sub.trans_set ?_ (by assumption)))) dig (by omega) (a.scale * n) (by omega) (by omega)).val (by rw [toNat_leV val, sign, hin])) ?_
          refine vOps_callV (V := .bool true) (by rfl) (by rfl) ((c_is w₀ _ p _ e).val (by rw [decide_eq_true hq])) ?_
          simp (decide := true) only [ev, putD, Slots.put, Slots.get, if_true, if_false, true_and, ↓vp_move, pop_move, decA]
          repeat (with_reducible refine And.intro ?_ ?_; · first | trivial | omega | (intro hg; simp only [Bool.and_eq_true, Bool.or_eq_true, Bool.not_eq_true', Bool.and_eq_false_iff, Bool.or_eq_false_iff, Bool.not_eq_false', decide_eq_true_eq, decide_eq_false_iff_not, eqNil] at hg; omega) | (simp only [List.length_append, List.length_map, List.length_range, List.length_replicate, List.length_take, List.length_drop, List.length_cons, List.length_nil, List.length_set, List.length_reverse]; omega))
          refine vOps_gcall (V := .bool true) (f := _) (cap := _) (xs := _) rfl (fun hg => ⟨rfl, ?_⟩) (fun hg => c_lives12 w₀ ht he _) ?_
          · try simp (decide := true) only [gv, nthDst, Slots.get, if_true, if_false, guardB_bool_true] at hg
            simp (decide := true) only [evs, List.append_nil, List.map_nil]
          simp (decide := true) only [vOps_nil, ev, absV, absS, putD, Slots.put, Slots.get, Slots.keep, if_true, if_false, true_and, gv, nthDst, guardB_bool_true, ↓vp_pick, pop_pick, pPick_bool, pickV_cond_l, pickV_and, ↓vp_assign, pop_assign, Bool.and_true]
          repeat (with_reducible refine And.intro ?_ ?_; · first | trivial | omega | (intro hg; simp only [Bool.and_eq_true, Bool.or_eq_true, Bool.not_eq_true', Bool.and_eq_false_iff, Bool.or_eq_false_iff, Bool.not_eq_false', decide_eq_true_eq, decide_eq_false_iff_not, eqNil] at hg; omega) | (simp only [List.length_append, List.length_map, List.length_range, List.length_replicate, List.length_take, List.length_drop, List.length_cons, List.length_nil, List.length_set, List.length_reverse]; omega))
          apply hK; clear hK K
          refine awp_ret ?_
          try simp only [thenA_ret, inBlockA_ret]
          refine retA_ret h (by repeat (first | exact Sub.refl _ | assumption | refine Sub.trans_set ?_ (by assumption))) (resPre_tmp (resPre_nil)) ?_
          simp (decide := true) only [Slots.get, if_true, and_true, resOf_one]
          all_goals first | rfl | exact ⟨rfl, rfl⟩ | (simp (decide := true) only [if_true, if_false, *]; done) | (trace_state; fail)
end Go.Proofs.YthiiakghjoeikaaGreatDoor

/-
  The arguments of the statements, opened: numbers as plain data, grids, decimals, pairs; the listed table.
  Conditions: none.
-/
namespace Go.Proofs.YthiiakghjoeikaaGreatDoor
open Go.AM
open Go.ChangeShapes Go.WideShapes Go.ChangeAt Go.RowKit
set_option maxRecDepth 100000

section
variable {H : Type} {enc : TypeId × Value → H} {W : World} {base : Nat} {v : Value} {x : DataW H × List MemPlace}

theorem u8_of {n : Int} (h : (Lit.int .u8 n).wf = true) : ∃ b : UInt8, (b.toNat : Int) = n := by
  have := wf_u8 h
  exact ⟨UInt8.ofNat n.toNat, by rw [UInt8.toNat_ofNat']; omega⟩

theorem arg_u8 {t : TypeId} (ht : Tryz.prog.underlying t = some (.int .u8)) (h : ∃ fuel, DataW.trod enc Tryz.prog W 0 (fun _ => true) true fuel t v.cells.toList = some x) (hv : Value.okWide Tryz.prog W .any base t v) :
    ∃ b : UInt8, VR (fun _ => none) (.int .u8 b.toNat) v := by
  obtain ⟨fuel, hf⟩ := h
  obtain ⟨n, hcs, _, hw⟩ := DataW.trod_int ht hf
  obtain ⟨b, hb⟩ := u8_of hw
  obtain ⟨m, rfl⟩ := okWide_int ht hv
  refine ⟨b, ?_⟩
  simp [Value.cells] at hcs
  simp only [VR, hb, hcs]

theorem arg_N (h : ∃ fuel, DataW.trod enc Tryz.prog W 0 (fun _ => true) true fuel 24 v.cells.toList = some x) (hv : Value.okWide Tryz.prog W .any base 24 v) :
    ∃ (neg : Bool) (y : AVal) (bs : List UInt8) (sc : UInt8), VR (fun _ => none) (.agg [.bool neg, y, .int .u8 sc.toNat]) v ∧ IsB W (fun _ => none) y bs ∧ bs.length ≤ 9223372036854775807 := by
  obtain ⟨cs, rfl, hsz⟩ := okWide_struct Tryz.underlying24 hv
  obtain ⟨fuel, hf⟩ := h
  obtain ⟨y0, y1, y2, n, _, hl, h0, h1, h2⟩ := Go.Deep.trod_struct3 Tryz.underlying24 hf
  rw [show Tryz.prog.cellsOf 24 = 3 by kernel_rfl] at hsz hl
  obtain ⟨l⟩ := cs
  match l, hsz with
  | [c0, c1, c2], _ =>
    simp only [show Tryz.prog.cellsOf 4 = 1 by kernel_rfl, show Tryz.prog.cellsOf 22 = 1 by kernel_rfl, show Tryz.prog.cellsOf 5 = 1 by kernel_rfl, Value.cells, List.drop_zero, List.drop_succ_cons, List.take_succ_cons, List.take_zero] at h0 h1 h2
    obtain ⟨b, e0, _⟩ := DataW.trod_bool Tryz.underlying4 h0
    obtain ⟨m, e2, _, hw⟩ := DataW.trod_int Tryz.underlying5 h2
    obtain ⟨sc, hs⟩ := u8_of hw
    simp only [List.cons.injEq, and_true] at e0 e2
    subst e0 e2
    have fin : ∀ (a : Option Addr) (len cap : Nat) (zs : List Int), c1 = .slice a len cap → IsRow .u8 W a len cap zs → ∃ (neg : Bool) (y : AVal) (bs : List UInt8) (sc : UInt8), VR (fun _ => none) (.agg [.bool neg, y, .int .u8 sc.toNat]) (.agg #[.bool b, c1, .int .u8 m]) ∧ IsB W (fun _ => none) y bs ∧ bs.length ≤ 9223372036854775807 := by
      rintro a len cap zs rfl hr
      obtain ⟨y, bs, hy, hb, hlen, hmx, _⟩ := isB_of_row hr
      refine ⟨b, y, bs, sc, ?_, hb, by omega⟩
      simp only [VR]
      refine ⟨_, rfl, ?_⟩
      simp only [VRs]
      exact ⟨_, _, rfl, by simp only [VR], _, _, rfl, hy, _, _, rfl, by simp only [VR, hs], rfl⟩
    rcases open_ints Tryz.underlying22 Tryz.underlying5 (by kernel_rfl) h1 with ⟨hcs, _⟩ | ⟨x', l', c', zs, hcs, _, hl', hm', hz, _, hcell, hwz⟩
    · simp only [List.cons.injEq, and_true] at hcs
      exact fin _ _ _ [] hcs (.inl ⟨rfl, rfl, rfl, rfl⟩)
    · simp only [List.cons.injEq, and_true] at hcs
      exact fin _ _ _ zs hcs (.inr ⟨_, rfl, hl', hm', by simpa using hz, hcell, hwz⟩)
end
/-- The listed table of powers of ten. -/
theorem tab_of {W : World} {rest : List (String × DataW Unit)} (h : laidMet Tryz.prog (("internal/strconv.uint64pow10", Rows.laid_internal_strconv_uint64pow10) :: rest) W) : Tab10 W :=
  Lib.tabIs_of_head (g := 0) (by kernel_rfl) (by kernel_rfl) (show Tryz.prog.underlying 134 = _ from Tryz.underlying134) Tryz.underlying111 (by kernel_rfl) (by kernel_rfl) h
end Go.Proofs.YthiiakghjoeikaaGreatDoor

/-
  The arguments of the statements, opened: decimals, pairs of integers.
  Conditions: none.
-/
namespace Go.Proofs.YthiiakghjoeikaaGreatDoor
open Go.AM
open Go.Dec
open Go.ChangeShapes Go.WideShapes Go.ChangeAt Go.RowKit
set_option maxRecDepth 100000

section
variable {H : Type} {enc : TypeId × Value → H} {W : World} {base : Nat} {v : Value} {x : DataW H × List MemPlace}

end
end Go.Proofs.YthiiakghjoeikaaGreatDoor

/-
  The arguments of the statements, opened: booleans, texts, integers; the errors of the library that a row lists.
  Conditions: none.
-/
namespace Go.Proofs.YthiiakghjoeikaaGreatDoor
open Go.AM
open Go.ChangeShapes Go.WideShapes Go.ChangeAt Go.RowKit
set_option maxRecDepth 100000

section
variable {H : Type} {enc : TypeId × Value → H} {W : World} {base : Nat} {v : Value} {x : DataW H × List MemPlace}
theorem wf_i16 {n : Int} (h : (Lit.int .i16 n).wf = true) : -32768 ≤ n ∧ n ≤ 32767 := by
  have e1 : IntKind.i16.min = -32768 := by decide
  have e2 : IntKind.i16.max = 32767 := by decide
  simpa [Lit.wf, e1, e2] using h
theorem arg_i16 {t : TypeId} (ht : Tryz.prog.underlying t = some (.int .i16)) (h : ∃ fuel, DataW.trod enc Tryz.prog W 0 (fun _ => true) true fuel t v.cells.toList = some x) (hv : Value.okWide Tryz.prog W .any base t v) :
    ∃ n : Int, VR (fun _ => none) (.int .i16 n) v ∧ -32768 ≤ n ∧ n ≤ 32767 := by
  obtain ⟨fuel, hf⟩ := h
  obtain ⟨n, hcs, _, hw⟩ := DataW.trod_int ht hf
  obtain ⟨m, rfl⟩ := okWide_int ht hv
  simp [Value.cells] at hcs
  subst hcs
  exact ⟨m, by simp only [VR], wf_i16 hw⟩
end
theorem star_err : "*" ++ "errors.errorString" = "*errors.errorString" := by decide
theorem row_err (u : TypeId) (h : Tryz.prog.typeName? 3 u = some "*errors.errorString") : u = 155 :=
  typeName_ptr_named (nm := "errors.errorString") (by rw [star_err]; kernel_rfl) (by kernel_rfl) (by decide) u (by rw [star_err]; exact h)
/-- The listed error. -/
theorem errs_of {W : World} {rest : List (String × DataW Unit)} (h : laidMet Tryz.prog (("strconv.ErrRange", Rows.laid_strconv_ErrRange) :: rest) W) : Errs W := by
  obtain ⟨a, s, hv, _⟩ := laid_sentinel (g := 3) (tp := 155) h (by kernel_rfl) (by kernel_rfl) Tryz.underlying82 row_err Tryz.underlying155 Tryz.underlying157 (by kernel_rfl) (by kernel_rfl) Tryz.underlying9 (by kernel_rfl) (by kernel_rfl)
  exact ⟨_, by rw [World.var?_cell (g := 3) (by kernel_rfl) hv 0]; rfl, .inr ⟨_, _, rfl⟩⟩
end Go.Proofs.YthiiakghjoeikaaGreatDoor

