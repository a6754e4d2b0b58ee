/-
  Contract: times (digits are multiplied).
  Conditions: none.
-/
import Derived.Test.YthiiakghjoeikaaGreatDoorLbA
import Derived.Test.YthiiakghjoeikaaGreatDoorLwA
import Derived.Test.YthiiakghjoeikaaGreatDoorPlE
import Derived.Test.YthiiakghjoeikaaGreatDoorAmX
set_option linter.unusedSimpArgs false
set_option linter.unnecessarySimpa false
set_option linter.unusedVariables false
namespace Go.Proofs.YthiiakghjoeikaaGreatDoor
open Go.AM
open Go.Proofs
open Go.Dec
open Go.Lib (decDigits)
set_option maxRecDepth 100000

theorem fill_ch (zs : List Int) (t : Nat) (ht : t < zs.length) : (chL (zs.take t) ++ List.replicate (zs.length - t) 0).set t (dch (zs.getD t 0).toNat) = chL (zs.take (t + 1)) ++ List.replicate (zs.length - (t + 1)) 0 := by
  have hl : (chL (zs.take t)).length = t := by simp [chL]; omega
  rw [List.set_append_right _ _ (by omega), hl, Nat.sub_self, show zs.length - t = (zs.length - (t + 1)) + 1 by omega, List.replicate_succ, List.set_cons_zero, List.take_add_one, List.getElem?_eq_getElem ht]
  have e : zs.getD t 0 = zs[t] := by simp [List.getD, ht]
  rw [e]
  show _ = (zs.take t ++ [zs[t]]).map _ ++ _
  rw [List.map_append, List.append_assoc]
  rfl
theorem dig_prod {a b : UInt8} (ha : 48 ≤ a.toNat ∧ a.toNat ≤ 57) (hb : 48 ≤ b.toNat ∧ b.toNat ≤ 57) :
    0 ≤ ((a.toNat : Int) - 48) * ((b.toNat : Int) - 48) ∧ ((a.toNat : Int) - 48) * ((b.toNat : Int) - 48) ≤ 81 ∧ ((a.toNat : Int) - 48) * ((b.toNat : Int) - 48) = (dv a * dv b : Nat) := by
  have e1 : ((a.toNat : Int) - 48) = (dv a : Int) := by simp only [dv]; omega
  have e2 : ((b.toNat : Int) - 48) = (dv b : Int) := by simp only [dv]; omega
  have h1 : dv a ≤ 9 := by simp only [dv]; omega
  have h2 : dv b ≤ 9 := by simp only [dv]; omega
  rw [e1, e2, ← Int.natCast_mul]
  have := Nat.mul_le_mul h1 h2
  exact ⟨by omega, by omega, rfl⟩
theorem all_digits {zs : List Int} {n : Nat} (h0 : ∀ j, 0 ≤ zs.getD j 0) (h9 : ∀ j, 1 ≤ j → zs.getD j 0 ≤ 9) (hv : valL zs = (n : Int)) (hn : n < 10 ^ zs.length) : ∀ z ∈ zs, 0 ≤ z ∧ z ≤ 9 := by
  cases zs with
  | nil => intro z hz; cases hz
  | cons a zs =>
    have hpos : ∀ z ∈ zs, 0 ≤ z := fun z hz => by
      obtain ⟨j, hj, rfl⟩ := List.getElem_of_mem hz
      have := h0 (j + 1)
      rw [List.getD_cons_succ, List.getD, List.getElem?_eq_getElem hj] at this
      exact this
    have ha : a ≤ 9 := by
      refine Int.le_of_not_gt fun hgt => ?_
      rw [valL_cons] at hv
      have h1 := valL_nonneg zs hpos
      have h2 : 10 * 10 ^ zs.length ≤ a * 10 ^ zs.length := Int.mul_le_mul_of_nonneg_right (by omega) (Int.pow_nonneg (by omega))
      rw [List.length_cons, Nat.pow_succ] at hn
      have h3 : ((10 ^ zs.length : Nat) : Int) = (10 : Int) ^ zs.length := by rw [Int.natCast_pow]; rfl
      omega
    intro z hz
    rcases List.mem_cons.1 hz with rfl | hz
    · exact ⟨h0 0, ha⟩
    · obtain ⟨j, hj, rfl⟩ := List.getElem_of_mem hz
      have q0 := h0 (j + 1)
      have q9 := h9 (j + 1) (by omega)
      rw [List.getD_cons_succ, List.getD, List.getElem?_eq_getElem hj] at q0 q9
      exact ⟨q0, q9⟩
theorem prod_lt {x y : List UInt8} (hx : x.all dg = true) (hy : y.all dg = true) : natOf x * natOf y < 10 ^ (x.length + y.length) := by
  rw [Nat.pow_add]
  have h1 := natOf_lt x hx
  have h2 := natOf_lt y hy
  exact Nat.mul_lt_mul_of_lt_of_le h1 (Nat.le_of_lt h2) (Nat.pow_pos (by omega))

theorem getD_zeros (n j : Nat) : (List.replicate n (0 : Int)).getD j 0 = 0 := by
  rw [List.getD, List.getElem?_replicate]; split <;> rfl

set_option maxHeartbeats 2000000 in
theorem c_times (w₀ : World) (h : AHeap) (x y : List UInt8) (hx : x.all dg = true) (hy : y.all dg = true) (lx : x.length ≤ 1048576) (ly : y.length ≤ 1048576) :
    ACall Tryz.prog w₀ 48 [.str x, .str y] h (fun v h' => v = .str (fixS (natOf x * natOf y) (x.length + y.length)) ∧ h' = h) := by
  obtain ⟨N, hN⟩ : ∃ N : Nat, N = x.length + y.length := ⟨_, rfl⟩
  have hNi : ((x.length : Int) + y.length).toNat = N := by omega
  rw [← hN]
  refine acall_intro (n := 94) (rs := [.tmp 4]) Tryz.func48 rfl rfl rfl rfl (Nat.le_of_ble_eq_true rfl) ?_
  simp only [initSlots]
  -- region 0  decimals.go:229
  refine awp_rseq [0, 1] (by rfl) fun K hK => ?_
  simp (decide := true) only [aOps_nil, ev, absV, absS, putD, Slots.put, Slots.keep, if_true, if_false, true_and, ↓ap_assign, pop_assign, Nat.zero_add]
  repeat (with_reducible refine And.intro ?_ ?_; · first | trivial | omega | (intro hg; simp only [Bool.and_eq_true, Bool.or_eq_true, Bool.not_eq_true', Bool.and_eq_false_iff, Bool.or_eq_false_iff, Bool.not_eq_false', decide_eq_true_eq, decide_eq_false_iff_not, eqNil] at hg; omega) | (simp only [List.length_append, List.length_map, List.length_range, List.length_replicate, List.length_take, List.length_drop, List.length_cons, List.length_nil, List.length_set, List.length_reverse]; omega))
  apply hK; clear hK K
  -- region 1  decimals.go:230
  refine awp_rseq [0, 1, 5] (by rfl) fun K hK => ?_
  simp (decide := true) only [ev, putD, Slots.put, Slots.get, if_true, if_false, true_and, ↓ap_move, pop_move, ↓ap_len, pop_len, pLen_str Tryz.underlying9, ↓ap_binOp, pop_binOp, isNilC_tmp, cond_false, pBinX_int, pI_add]
  try simp (disch := omega) only [wrap_i64]
  repeat (with_reducible refine And.intro ?_ ?_; · first | trivial | omega | (intro hg; simp only [Bool.and_eq_true, Bool.or_eq_true, Bool.not_eq_true', Bool.and_eq_false_iff, Bool.or_eq_false_iff, Bool.not_eq_false', decide_eq_true_eq, decide_eq_false_iff_not, eqNil] at hg; omega) | (simp only [List.length_append, List.length_map, List.length_range, List.length_replicate, List.length_take, List.length_drop, List.length_cons, List.length_nil, List.length_set, List.length_reverse]; omega))
  refine aOps_makeInts Tryz.underlying38 sz3 by3 ze3 (by rfl) (by rfl) (by omega) (by omega) fun k1 hk1 => ?_
  try have hf_1 : h k1 = none := by first | assumption | (simp only [AHeap.set_none] at hk1; simp only [hk1])
  simp (decide := true) only [aOps_nil, ev, putD, Slots.put, Slots.get, Slots.keep, if_true, if_false, true_and, ↓ap_assign, pop_assign, hNi]
  repeat (with_reducible refine And.intro ?_ ?_; · first | trivial | omega | (intro hg; simp only [Bool.and_eq_true, Bool.or_eq_true, Bool.not_eq_true', Bool.and_eq_false_iff, Bool.or_eq_false_iff, Bool.not_eq_false', decide_eq_true_eq, decide_eq_false_iff_not, eqNil] at hg; omega) | (simp only [List.length_append, List.length_map, List.length_range, List.length_replicate, List.length_take, List.length_drop, List.length_cons, List.length_nil, List.length_set, List.length_reverse]; omega))
  apply hK; clear hK K
  refine awp_seq ?_
  -- region 2  decimals.go:231
  refine awp_rseq [0, 1, 5, 19, 20] (by rfl) fun K hK => ?_
  simp (decide := true) only [aOps_nil, ev, absV, absS, putD, Slots.put, Slots.get, Slots.keep, if_true, if_false, true_and, ↓ap_move, pop_move, ↓ap_len, pop_len, pLen_str Tryz.underlying9]
  repeat (with_reducible refine And.intro ?_ ?_; · first | trivial | omega | (intro hg; simp only [Bool.and_eq_true, Bool.or_eq_true, Bool.not_eq_true', Bool.and_eq_false_iff, Bool.or_eq_false_iff, Bool.not_eq_false', decide_eq_true_eq, decide_eq_false_iff_not, eqNil] at hg; omega) | (simp only [List.length_append, List.length_map, List.length_range, List.length_replicate, List.length_take, List.length_drop, List.length_cons, List.length_nil, List.length_set, List.length_reverse]; omega))
  apply hK; clear hK K
  refine awp_block ?_
  refine awp_loopG [0, 1, 5, 19, 20] (fun g : Nat × List Int => [(0, .str x), (1, .str y), (5, .slice (.own k1) 0 N (.exact N)), (19, .int .i64 x.length), (20, .int .i64 g.1)]) (fun g : Nat × List Int => h.set k1 ⟨intCells g.2, 0⟩) (fun g : Nat × List Int => g.1 ≤ x.length ∧ g.2.length = N ∧ valL g.2 = rowsV x y g.1 0 ∧ ∀ j, 0 ≤ g.2.getD j 0 ∧ g.2.getD j 0 ≤ 81 * (g.1 * 1048576)) (fun g : Nat × List Int => x.length - g.1) (0, List.replicate N 0) rfl (Sub.refl _) ⟨Nat.zero_le _, by simp, by rw [valL_zeros, rowsV_start, List.take_zero, natOf_nil, Nat.zero_mul, Nat.zero_mul]; rfl, fun j => by simp only [getD_zeros]; omega⟩ ?_
  rintro ⟨i, zs⟩ ⟨hi, hzl, hzv, hzb⟩
  simp only at hi hzl hzv hzb
  -- region 3  decimals.go:231
  refine awp_rseq [0, 1, 5, 19, 20, 21] (by rfl) fun K hK => ?_
  simp (decide := true) only [aOps_nil, ev, putD, Slots.put, Slots.get, Slots.keep, if_true, if_false, true_and, ↓ap_binOp, pop_binOp, isNilC_tmp, cond_false, pBinX_int, pI_lss]
  repeat (with_reducible refine And.intro ?_ ?_; · first | trivial | omega | (intro hg; simp only [Bool.and_eq_true, Bool.or_eq_true, Bool.not_eq_true', Bool.and_eq_false_iff, Bool.or_eq_false_iff, Bool.not_eq_false', decide_eq_true_eq, decide_eq_false_iff_not, eqNil] at hg; omega) | (simp only [List.length_append, List.length_map, List.length_range, List.length_replicate, List.length_take, List.length_drop, List.length_cons, List.length_nil, List.length_set, List.length_reverse]; omega))
  apply hK; clear hK K
  refine awp_seq (awp_cond (b := _) rfl (fun hb1 => ?_) (fun hb1 => ?_))
  · try simp only [decide_eq_true_eq] at hb1
    refine awp_skip ?_
    change Awp _ _ _ _ _ _ _
    refine awp_seq ?_
    refine awp_block ?_
    -- region 4  decimals.go:231
    refine awp_rseq [0, 1, 5, 6, 19, 20] (by rfl) fun K hK => ?_
    simp (decide := true) only [aOps_nil, ev, putD, Slots.put, Slots.get, Slots.keep, if_true, if_false, true_and, ↓ap_move, pop_move, ↓ap_assign, pop_assign]
    repeat (with_reducible refine And.intro ?_ ?_; · first | trivial | omega | (intro hg; simp only [Bool.and_eq_true, Bool.or_eq_true, Bool.not_eq_true', Bool.and_eq_false_iff, Bool.or_eq_false_iff, Bool.not_eq_false', decide_eq_true_eq, decide_eq_false_iff_not, eqNil] at hg; omega) | (simp only [List.length_append, List.length_map, List.length_range, List.length_replicate, List.length_take, List.length_drop, List.length_cons, List.length_nil, List.length_set, List.length_reverse]; omega))
    apply hK; clear hK K
    -- region 5  decimals.go:232
    refine awp_rseq [0, 1, 5, 6, 19, 20, 24, 25] (by rfl) fun K hK => ?_
    simp (decide := true) only [aOps_nil, ev, absV, absS, putD, Slots.put, Slots.get, Slots.keep, if_true, if_false, true_and, ↓ap_move, pop_move, ↓ap_len, pop_len, pLen_str Tryz.underlying9]
    repeat (with_reducible refine And.intro ?_ ?_; · first | trivial | omega | (intro hg; simp only [Bool.and_eq_true, Bool.or_eq_true, Bool.not_eq_true', Bool.and_eq_false_iff, Bool.or_eq_false_iff, Bool.not_eq_false', decide_eq_true_eq, decide_eq_false_iff_not, eqNil] at hg; omega) | (simp only [List.length_append, List.length_map, List.length_range, List.length_replicate, List.length_take, List.length_drop, List.length_cons, List.length_nil, List.length_set, List.length_reverse]; omega))
    apply hK; clear hK K
    refine awp_block ?_
    refine awp_loopG [0, 1, 5, 6, 19, 20, 24, 25] (fun g : Nat × List Int => [(0, .str x), (1, .str y), (5, .slice (.own k1) 0 N (.exact N)), (6, .int .i64 i), (19, .int .i64 x.length), (20, .int .i64 i), (24, .int .i64 y.length), (25, .int .i64 g.1)]) (fun g : Nat × List Int => h.set k1 ⟨intCells g.2, 0⟩) (fun g : Nat × List Int => g.1 ≤ y.length ∧ g.2.length = N ∧ valL g.2 = rowsV x y i g.1 ∧ ∀ j, 0 ≤ g.2.getD j 0 ∧ g.2.getD j 0 ≤ 81 * (i * 1048576 + g.1)) (fun g : Nat × List Int => y.length - g.1) (0, zs) rfl (Sub.refl _) ⟨Nat.zero_le _, hzl, hzv, fun j => by have := hzb j; simp only; omega⟩ ?_
    rintro ⟨k, us⟩ ⟨hk, hul, huv, hub⟩
    simp only at hk hul huv hub
    -- region 6  decimals.go:232
    refine awp_rseq [0, 1, 5, 6, 19, 20, 24, 25, 26] (by rfl) fun K hK => ?_
    simp (decide := true) only [aOps_nil, ev, putD, Slots.put, Slots.get, Slots.keep, if_true, if_false, true_and, ↓ap_binOp, pop_binOp, isNilC_tmp, cond_false, pBinX_int, pI_lss]
    repeat (with_reducible refine And.intro ?_ ?_; · first | trivial | omega | (intro hg; simp only [Bool.and_eq_true, Bool.or_eq_true, Bool.not_eq_true', Bool.and_eq_false_iff, Bool.or_eq_false_iff, Bool.not_eq_false', decide_eq_true_eq, decide_eq_false_iff_not, eqNil] at hg; omega) | (simp only [List.length_append, List.length_map, List.length_range, List.length_replicate, List.length_take, List.length_drop, List.length_cons, List.length_nil, List.length_set, List.length_reverse]; omega))
    apply hK; clear hK K
    refine awp_seq (awp_cond (b := _) rfl (fun hb2 => ?_) (fun hb2 => ?_))
    · try simp only [decide_eq_true_eq] at hb2
      have hxi := dg_at hx i (by omega)
      have hyk := dg_at hy k (by omega)
      obtain ⟨hp0, hp81, hpv⟩ := dig_prod hxi hyk
      have hidx2 : ((i : Int) + k + 1).toNat = i + k + 1 := by omega
      have hget := intCells_getD (zs := us) (i := i + k + 1) (by omega)
      have hb := hub (i + k + 1)
      refine awp_skip ?_
      change Awp _ _ _ _ _ _ _
      refine awp_seq ?_
      refine awp_block ?_
      -- region 7  decimals.go:232
      refine awp_rseq [0, 1, 5, 6, 7, 19, 20, 24, 25] (by rfl) fun K hK => ?_
      simp (decide := true) only [aOps_nil, ev, putD, Slots.put, Slots.get, Slots.keep, if_true, if_false, true_and, ↓ap_move, pop_move, ↓ap_assign, pop_assign]
      repeat (with_reducible refine And.intro ?_ ?_; · first | trivial | omega | (intro hg; simp only [Bool.and_eq_true, Bool.or_eq_true, Bool.not_eq_true', Bool.and_eq_false_iff, Bool.or_eq_false_iff, Bool.not_eq_false', decide_eq_true_eq, decide_eq_false_iff_not, eqNil] at hg; omega) | (simp only [List.length_append, List.length_map, List.length_range, List.length_replicate, List.length_take, List.length_drop, List.length_cons, List.length_nil, List.length_set, List.length_reverse]; omega))
      apply hK; clear hK K
      -- region 8  decimals.go:233
      refine awp_draw_tail 20 mixed (by kernel_rfl) (by rfl) (by rfl) ?_
      simp (decide := true) only [ev, absV, absS, putD, Slots.put, Slots.get, if_true, if_false, true_and, ↓ap_move, pop_move, ↓ap_binOp, pop_binOp, isNilC_tmp, cond_false, pBinX_int, pI_add, isNilC_int]
      try simp (disch := omega) only [wrap_i64]
      try simp (decide := true) only [ev, absV, absS, putD, Slots.put, Slots.get, if_true, if_false, true_and, ↓ap_indexAddrL, apL_mk, pIndexAddr_slice Tryz.underlying38 sz3, ↓ap_loadL, pLoad_one ag3, ↓ap_move, pop_move, ↓ap_index, pop_index, pIndex_str Tryz.underlying9, ↓ap_binOp, pop_binOp, isNilC_int, cond_false, pBinX_int, pI_sub, ↓ap_convert _ _ _ (es_int Tryz.underlying5 Tryz.underlying3), pop_convert, pConv_int Tryz.underlying5 Tryz.underlying3, rd_any, Nat.zero_add, lv_int, Int.toNat_natCast, hidx2, Nat.mul_one, Nat.zero_add, hget, Int.toNat_natCast, lv_int]
      try simp (disch := omega) only [wrap_i64, wrap_u8]
      try simp (decide := true) only [true_and, cond_false, pBinX_int, isNilC_tmp, pI_mul, pI_add]
      try simp (disch := omega) only [wrap_i64]
      try simp (decide := true) only [aOps_nil, vOps_nil, fOps_nil, kOps_nil, ev, absV, absS, putD, Slots.put, Slots.get, Slots.keep, if_true, if_false, List.contains_cons, List.contains_nil, true_and, and_true, ↓ap_indexAddrL, apL_mk, pIndexAddr_slice Tryz.underlying38 sz3, rd_ne', ne_eq, not_false_eq_true, rd_any, AVal.cells, setAt, List.set_cons_zero, List.set_cons_succ, cellsAt, List.getD_cons_zero, List.getD_cons_succ, Nat.zero_add, Nat.reduceAdd, lv_bool, lv_int, lv_str, lv_nilPtr, lv_ptr, lv_nilSlice, lv_slice, lv_nilFunc, lv_func, lv_nilIface, lv_iface, lv_nilMap, lv_agg, lv_tuple, allLive, Bool.and_true, decA, hNi, Int.toNat_natCast, hidx2, Nat.mul_one, Nat.zero_add, hget, Int.toNat_natCast, lv_int]
      repeat (with_reducible refine And.intro ?_ ?_; · first | trivial | omega | (intro hg; simp only [Bool.and_eq_true, Bool.or_eq_true, Bool.not_eq_true', Bool.and_eq_false_iff, Bool.or_eq_false_iff, Bool.not_eq_false', decide_eq_true_eq, decide_eq_false_iff_not, eqNil] at hg; omega) | (simp only [List.length_append, List.length_map, List.length_range, List.length_replicate, List.length_take, List.length_drop, List.length_cons, List.length_nil, List.length_set, List.length_reverse]; omega))
      refine aOps_storeInt (i := i + k + 1) (by rfl) (by rfl) sz3 (by rfl) (by simp only) (by omega) (Nat.zero_le _) ?_
      simp (decide := true) only [aOps_nil, putD]
      repeat (with_reducible refine And.intro ?_ ?_; · first | trivial | omega | (intro hg; simp only [Bool.and_eq_true, Bool.or_eq_true, Bool.not_eq_true', Bool.and_eq_false_iff, Bool.or_eq_false_iff, Bool.not_eq_false', decide_eq_true_eq, decide_eq_false_iff_not, eqNil] at hg; omega) | (simp only [List.length_append, List.length_map, List.length_range, List.length_replicate, List.length_take, List.length_drop, List.length_cons, List.length_nil, List.length_set, List.length_reverse]; omega))
      change Awp _ _ _ _ _ _ _
      -- region 9  decimals.go:232
      refine awp_r [0, 1, 5, 6, 19, 20, 24, 25] (by rfl) ?_
      simp (decide := true) only [aOps_nil, ev, absV, absS, putD, Slots.put, Slots.get, Slots.keep, if_true, if_false, true_and, ↓ap_binOp, pop_binOp, isNilC_int, cond_false, pBinX_int, pI_add, ↓ap_move, pop_move]
      try simp (disch := omega) only [wrap_i64]
      repeat (with_reducible refine And.intro ?_ ?_; · first | trivial | omega | (intro hg; simp only [Bool.and_eq_true, Bool.or_eq_true, Bool.not_eq_true', Bool.and_eq_false_iff, Bool.or_eq_false_iff, Bool.not_eq_false', decide_eq_true_eq, decide_eq_false_iff_not, eqNil] at hg; omega) | (simp only [List.length_append, List.length_map, List.length_range, List.length_replicate, List.length_take, List.length_drop, List.length_cons, List.length_nil, List.length_set, List.length_reverse]; omega))
      try simp only [thenA_normal]
      refine ⟨(k + 1, us.set (i + k + 1) (us.getD (i + k + 1) 0 + ((((x.getD i 0).toNat : Int) - 48) * (((y.getD k 0).toNat : Int) - 48)))), rfl, Sub.refl _, ⟨by simp only; omega, by simp [hul], ?_, fun j => ?_⟩, by simp only; omega⟩
      · simp only
        rw [valL_set _ _ _ (by omega), huv, rowsV_col x y i k (by omega) (by omega), hpv, hul, hN, show us.getD (i + k + 1) 0 + ((dv (x.getD i 0) * dv (y.getD k 0) : Nat) : Int) - us.getD (i + k + 1) 0 = ((dv (x.getD i 0) * dv (y.getD k 0) : Nat) : Int) by omega]
      · by_cases e : i + k + 1 = j
        · subst e
          simp only
          rw [getL_set_self _ _ _ _ (by omega)]
          omega
        · simp only
          rw [getL_set_ne _ _ _ _ _ e]
          have := hub j
          omega
    · try simp only [decide_eq_false_iff_not] at hb2
      refine awp_exit ?_
      change Awp _ _ _ _ _ _ _
      -- region 10  decimals.go:231
      refine awp_r [0, 1, 5, 19, 20] (by rfl) ?_
      simp (decide := true) only [aOps_nil, ev, absV, absS, putD, Slots.put, Slots.get, Slots.keep, if_true, if_false, true_and, ↓ap_binOp, pop_binOp, isNilC_int, cond_false, pBinX_int, pI_add, ↓ap_move, pop_move]
      try simp (disch := omega) only [wrap_i64]
      repeat (with_reducible refine And.intro ?_ ?_; · first | trivial | omega | (intro hg; simp only [Bool.and_eq_true, Bool.or_eq_true, Bool.not_eq_true', Bool.and_eq_false_iff, Bool.or_eq_false_iff, Bool.not_eq_false', decide_eq_true_eq, decide_eq_false_iff_not, eqNil] at hg; omega) | (simp only [List.length_append, List.length_map, List.length_range, List.length_replicate, List.length_take, List.length_drop, List.length_cons, List.length_nil, List.length_set, List.length_reverse]; omega))
      try simp only [thenA_normal]
      have hky : k = y.length := by omega
      refine ⟨(i + 1, us), rfl, Sub.refl _, ⟨by simp only; omega, hul, by simp only; rw [huv, hky, rowsV_row x y i (by omega)], fun j => ?_⟩, by simp only; omega⟩
      have := hub j
      simp only
      omega
  · try simp only [decide_eq_false_iff_not] at hb1
    have hil : i = x.length := by omega
    have hzv' : valL zs = (natOf x * natOf y : Nat) := by rw [hzv, hil, rowsV_end]
    refine awp_exit ?_
    change Awp _ _ _ _ _ _ _
    refine awp_seq ?_
    -- region 11  decimals.go:236
    refine awp_rseq [5, 8] (by rfl) fun K hK => ?_
    simp (decide := true) only [aOps_nil, ev, absV, absS, putD, Slots.put, Slots.get, Slots.keep, if_true, if_false, true_and, ↓ap_move, pop_move, ↓ap_len, pop_len, pLen_slice Tryz.underlying38, ↓ap_binOp, pop_binOp, isNilC_int, cond_false, pBinX_int, pI_sub, ↓ap_assign, pop_assign]
    try simp (disch := omega) only [wrap_i64]
    repeat (with_reducible refine And.intro ?_ ?_; · first | trivial | omega | (intro hg; simp only [Bool.and_eq_true, Bool.or_eq_true, Bool.not_eq_true', Bool.and_eq_false_iff, Bool.or_eq_false_iff, Bool.not_eq_false', decide_eq_true_eq, decide_eq_false_iff_not, eqNil] at hg; omega) | (simp only [List.length_append, List.length_map, List.length_range, List.length_replicate, List.length_take, List.length_drop, List.length_cons, List.length_nil, List.length_set, List.length_reverse]; omega))
    apply hK; clear hK K
    refine awp_block ?_
    refine awp_loopG [5, 8] (fun g : Nat × List Int => [(5, .slice (.own k1) 0 N (.exact N)), (8, .int .i64 ((g.1 : Int) - 1))]) (fun g : Nat × List Int => h.set k1 ⟨intCells g.2, 0⟩) (fun g : Nat × List Int => g.1 ≤ N ∧ g.2.length = N ∧ valL g.2 = (natOf x * natOf y : Nat) ∧ (∀ j, 0 ≤ g.2.getD j 0) ∧ (∀ j, g.1 ≤ j → g.2.getD j 0 ≤ 9) ∧ (∀ j, g.2.getD j 0 ≤ 200000000000000) ∧ (∀ j, j + 1 < g.1 → g.2.getD j 0 ≤ 100000000000000)) (fun g : Nat × List Int => g.1) (N, zs) rfl (Sub.refl _) ⟨Nat.le_refl _, hzl, hzv', fun j => (hzb j).1, fun j hj => by simp only at hj ⊢; rw [List.getD, List.getElem?_eq_none (by omega)]; decide, fun j => by have := (hzb j).2; simp only; omega, fun j _ => by have := (hzb j).2; simp only; omega⟩ ?_
    rintro ⟨m, us⟩ ⟨hm, hul, huv, hu0, hu9, hu2, hu1⟩
    simp only at hm hul huv hu0 hu9 hu2 hu1
    refine awp_seq ?_
    -- region 12  decimals.go:236
    refine awp_rseq [5, 8, 54] (by rfl) fun K hK => ?_
    simp (decide := true) only [aOps_nil, ev, absV, absS, putD, Slots.put, Slots.get, Slots.keep, if_true, if_false, true_and, ↓ap_move, pop_move, ↓ap_binOp, pop_binOp, isNilC_int, cond_false, pBinX_int, pI_gtr]
    repeat (with_reducible refine And.intro ?_ ?_; · first | trivial | omega | (intro hg; simp only [Bool.and_eq_true, Bool.or_eq_true, Bool.not_eq_true', Bool.and_eq_false_iff, Bool.or_eq_false_iff, Bool.not_eq_false', decide_eq_true_eq, decide_eq_false_iff_not, eqNil] at hg; omega) | (simp only [List.length_append, List.length_map, List.length_range, List.length_replicate, List.length_take, List.length_drop, List.length_cons, List.length_nil, List.length_set, List.length_reverse]; omega))
    apply hK; clear hK K
    refine awp_cond (b := _) rfl (fun hb3 => ?_) (fun hb3 => ?_)
    · try simp only [decide_eq_true_eq] at hb3
      obtain ⟨q, rfl⟩ : ∃ q, m = q + 2 := ⟨m - 2, by omega⟩
      have hq1 : (((q + 2 : Nat) : Int) - 1 - 1).toNat = q := by omega
      have hq2 : (((q + 2 : Nat) : Int) - 1).toNat = q + 1 := by omega
      have hg1 := intCells_getD (zs := us) (i := q) (by omega)
      have hg2 := intCells_getD (zs := us) (i := q + 1) (by omega)
      have b1 := hu0 q
      have b2 := hu0 (q + 1)
      have b3 := hu2 (q + 1)
      have b4 := hu1 q (by omega)
      have hg3 : (intCells (us.set q (us.getD q 0 + us.getD (q + 1) 0 / 10))).getD (q + 1) .dead = .int .i64 (us.getD (q + 1) 0) := by
        rw [intCells_getD (by rw [List.length_set]; omega), getL_set_ne _ _ _ _ _ (by omega)]
      refine awp_skip ?_
      change Awp _ _ _ _ _ _ _
      refine awp_seq ?_
      refine awp_block ?_
      -- region 14  decimals.go:237
      refine awp_dseq_tail 12 [5, 8] mixed (by kernel_rfl) (by rfl) (by rfl) fun K hK => ?_
      simp (decide := true) only [ev, absV, absS, putD, Slots.put, Slots.get, if_true, if_false, true_and, ↓ap_move, pop_move, ↓ap_binOp, pop_binOp, isNilC_int, cond_false, pBinX_int, pI_sub]
      try simp (disch := omega) only [wrap_i64]
      try simp (decide := true) only [ev, absV, absS, putD, Slots.put, Slots.get, if_true, if_false, true_and, ↓ap_indexAddrL, apL_mk, pIndexAddr_slice Tryz.underlying38 sz3, ↓ap_loadL, pLoad_one ag3, ↓ap_move, pop_move, ↓ap_binOp, pop_binOp, isNilC_int, cond_false, pBinX_int, pI_quo, isNilC_tmp, pI_add, rd_any, Nat.zero_add, lv_int, hq1, hq2, Nat.mul_one, Nat.zero_add, hg1, hg2, lv_int]
      try simp (disch := omega) only [Int.tdiv_eq_ediv_of_nonneg, wrap_i64]
      try simp (decide := true) only [aOps_nil, vOps_nil, fOps_nil, kOps_nil, ev, absV, absS, putD, Slots.put, Slots.get, Slots.keep, if_true, if_false, List.contains_cons, List.contains_nil, true_and, and_true, ↓ap_indexAddrL, apL_mk, pIndexAddr_slice Tryz.underlying38 sz3, rd_ne', ne_eq, not_false_eq_true, rd_any, AVal.cells, setAt, List.set_cons_zero, List.set_cons_succ, cellsAt, List.getD_cons_zero, List.getD_cons_succ, Nat.zero_add, Nat.reduceAdd, lv_bool, lv_int, lv_str, lv_nilPtr, lv_ptr, lv_nilSlice, lv_slice, lv_nilFunc, lv_func, lv_nilIface, lv_iface, lv_nilMap, lv_agg, lv_tuple, allLive, Bool.and_true, decA, hNi, Int.toNat_natCast, hq1, hq2, Nat.mul_one, Nat.zero_add, hg1, hg2, lv_int]
      repeat (with_reducible refine And.intro ?_ ?_; · first | trivial | omega | (intro hg; simp only [Bool.and_eq_true, Bool.or_eq_true, Bool.not_eq_true', Bool.and_eq_false_iff, Bool.or_eq_false_iff, Bool.not_eq_false', decide_eq_true_eq, decide_eq_false_iff_not, eqNil] at hg; omega) | (simp only [List.length_append, List.length_map, List.length_range, List.length_replicate, List.length_take, List.length_drop, List.length_cons, List.length_nil, List.length_set, List.length_reverse]; omega))
      refine aOps_storeInt (i := q) (by rfl) (by rfl) sz3 (by rfl) (by simp only) (by omega) (Nat.zero_le _) ?_
      simp (decide := true) only [aOps_nil, putD, Slots.keep, if_true, if_false]
      repeat (with_reducible refine And.intro ?_ ?_; · first | trivial | omega | (intro hg; simp only [Bool.and_eq_true, Bool.or_eq_true, Bool.not_eq_true', Bool.and_eq_false_iff, Bool.or_eq_false_iff, Bool.not_eq_false', decide_eq_true_eq, decide_eq_false_iff_not, eqNil] at hg; omega) | (simp only [List.length_append, List.length_map, List.length_range, List.length_replicate, List.length_take, List.length_drop, List.length_cons, List.length_nil, List.length_set, List.length_reverse]; omega))
      apply hK; clear hK K
      -- region 15  decimals.go:238
      refine awp_r [5, 8] (by rfl) ?_
      simp (decide := true) only [ev, absV, absS, putD, Slots.put, Slots.get, if_true, if_false, true_and, ↓ap_move, pop_move, ↓ap_indexAddrL, apL_mk, pIndexAddr_slice Tryz.underlying38 sz3, ↓ap_loadL, pLoad_one ag3, ↓ap_binOp, pop_binOp, isNilC_int, cond_false, pBinX_int, pI_rem, rd_any, Nat.zero_add, lv_int, hq2, Nat.mul_one, Nat.zero_add, hg3, lv_int]
      try simp (disch := omega) only [Int.tmod_eq_emod_of_nonneg]
      try simp (decide := true) only [aOps_nil, vOps_nil, fOps_nil, kOps_nil, ev, absV, absS, putD, Slots.put, Slots.get, Slots.keep, if_true, if_false, List.contains_cons, List.contains_nil, true_and, and_true, ↓ap_indexAddrL, apL_mk, pIndexAddr_slice Tryz.underlying38 sz3, rd_ne', ne_eq, not_false_eq_true, rd_any, AVal.cells, setAt, List.set_cons_zero, List.set_cons_succ, cellsAt, List.getD_cons_zero, List.getD_cons_succ, Nat.zero_add, Nat.reduceAdd, lv_bool, lv_int, lv_str, lv_nilPtr, lv_ptr, lv_nilSlice, lv_slice, lv_nilFunc, lv_func, lv_nilIface, lv_iface, lv_nilMap, lv_agg, lv_tuple, allLive, Bool.and_true, decA, hNi, Int.toNat_natCast, hq2, Nat.mul_one, Nat.zero_add, hg3, lv_int]
      repeat (with_reducible refine And.intro ?_ ?_; · first | trivial | omega | (intro hg; simp only [Bool.and_eq_true, Bool.or_eq_true, Bool.not_eq_true', Bool.and_eq_false_iff, Bool.or_eq_false_iff, Bool.not_eq_false', decide_eq_true_eq, decide_eq_false_iff_not, eqNil] at hg; omega) | (simp only [List.length_append, List.length_map, List.length_range, List.length_replicate, List.length_take, List.length_drop, List.length_cons, List.length_nil, List.length_set, List.length_reverse]; omega))
      refine aOps_storeInt (i := q + 1) (by rfl) (by rfl) sz3 (by rfl) (by simp only) (by rw [List.length_set]; omega) (Nat.zero_le _) ?_
      simp (decide := true) only [aOps_nil, putD, Slots.keep, if_true, if_false]
      repeat (with_reducible refine And.intro ?_ ?_; · first | trivial | omega | (intro hg; simp only [Bool.and_eq_true, Bool.or_eq_true, Bool.not_eq_true', Bool.and_eq_false_iff, Bool.or_eq_false_iff, Bool.not_eq_false', decide_eq_true_eq, decide_eq_false_iff_not, eqNil] at hg; omega) | (simp only [List.length_append, List.length_map, List.length_range, List.length_replicate, List.length_take, List.length_drop, List.length_cons, List.length_nil, List.length_set, List.length_reverse]; omega))
      change Awp _ _ _ _ _ _ _
      -- region 13  decimals.go:236
      refine awp_r [5, 8] (by rfl) ?_
      simp (decide := true) only [aOps_nil, ev, absV, absS, putD, Slots.put, Slots.get, Slots.keep, if_true, if_false, true_and, ↓ap_move, pop_move, ↓ap_binOp, pop_binOp, isNilC_int, cond_false, pBinX_int, pI_sub, ↓ap_assign, pop_assign]
      try simp (disch := omega) only [wrap_i64]
      repeat (with_reducible refine And.intro ?_ ?_; · first | trivial | omega | (intro hg; simp only [Bool.and_eq_true, Bool.or_eq_true, Bool.not_eq_true', Bool.and_eq_false_iff, Bool.or_eq_false_iff, Bool.not_eq_false', decide_eq_true_eq, decide_eq_false_iff_not, eqNil] at hg; omega) | (simp only [List.length_append, List.length_map, List.length_range, List.length_replicate, List.length_take, List.length_drop, List.length_cons, List.length_nil, List.length_set, List.length_reverse]; omega))
      try simp only [thenA_normal]
      refine ⟨(q + 1, (us.set q (us.getD q 0 + us.getD (q + 1) 0 / 10)).set (q + 1) (us.getD (q + 1) 0 % 10)), ?_, Sub.refl _, ⟨by simp only; omega, by simp [hul], by simp only; rw [valL_carry us q (by omega), huv], fun j => ?_, fun j hj => ?_, fun j => ?_, fun j hj => ?_⟩, by simp only; omega⟩
      · rw [show (((q + 1 : Nat) : Int) - 1) = ((q + 2 : Nat) : Int) - 1 - 1 by omega]; rfl
      all_goals
        have c1 := hu0 j
        have c2 := hu2 j
        by_cases e : q + 1 = j
        · subst e
          simp only at *
          rw [getL_set_self _ _ _ _ (by rw [List.length_set]; omega)]
          omega
        · simp only at *
          rw [getL_set_ne _ _ _ _ _ e]
          by_cases e2 : q = j
          · subst e2
            rw [getL_set_self _ _ _ _ (by omega)]
            omega
          · rw [getL_set_ne _ _ _ _ _ e2]
            first | omega | (have := hu9 j (by omega); omega) | (have := hu1 j (by omega); omega)
    · try simp only [decide_eq_false_iff_not] at hb3
      have hd9 : ∀ z ∈ us, 0 ≤ z ∧ z ≤ 9 := all_digits hu0 (fun j hj => hu9 j (by omega)) huv (by rw [hul, hN]; exact prod_lt hx hy)
      refine awp_exit ?_
      change Awp _ _ _ _ _ _ _
      -- region 16  decimals.go:240
      refine awp_rseq [5, 9] (by rfl) fun K hK => ?_
      simp (decide := true) only [ev, putD, Slots.put, Slots.get, if_true, if_false, true_and, ↓ap_move, pop_move, ↓ap_len, pop_len, pLen_slice Tryz.underlying38]
      repeat (with_reducible refine And.intro ?_ ?_; · first | trivial | omega | (intro hg; simp only [Bool.and_eq_true, Bool.or_eq_true, Bool.not_eq_true', Bool.and_eq_false_iff, Bool.or_eq_false_iff, Bool.not_eq_false', decide_eq_true_eq, decide_eq_false_iff_not, eqNil] at hg; omega) | (simp only [List.length_append, List.length_map, List.length_range, List.length_replicate, List.length_take, List.length_drop, List.length_cons, List.length_nil, List.length_set, List.length_reverse]; omega))
      refine aOps_makeBytes Tryz.underlying22 sz5 by5 ze5 (by rfl) (by rfl) (by omega) (by omega) fun k16 hk16 => ?_
      have ne_16_1 : k16 ≠ k1 := by simp only [AHeap.set_none] at hk16; simp only [hk16, ne_eq, not_false_eq_true]
      try have hf_16 : h k16 = none := by first | assumption | (simp only [AHeap.set_none] at hk16; simp only [hk16])
      simp (decide := true) only [aOps_nil, ev, putD, Slots.put, Slots.get, Slots.keep, if_true, if_false, true_and, ↓ap_assign, pop_assign, Int.toNat_natCast]
      repeat (with_reducible refine And.intro ?_ ?_; · first | trivial | omega | (intro hg; simp only [Bool.and_eq_true, Bool.or_eq_true, Bool.not_eq_true', Bool.and_eq_false_iff, Bool.or_eq_false_iff, Bool.not_eq_false', decide_eq_true_eq, decide_eq_false_iff_not, eqNil] at hg; omega) | (simp only [List.length_append, List.length_map, List.length_range, List.length_replicate, List.length_take, List.length_drop, List.length_cons, List.length_nil, List.length_set, List.length_reverse]; omega))
      apply hK; clear hK K
      refine awp_seq ?_
      -- region 17  decimals.go:241
      refine awp_rseq [9, 78, 79, 80] (by rfl) fun K hK => ?_
      simp (decide := true) only [aOps_nil, ev, absV, absS, putD, Slots.put, Slots.get, Slots.keep, if_true, if_false, true_and, ↓ap_move, pop_move, ↓ap_len, pop_len, pLen_slice Tryz.underlying38]
      repeat (with_reducible refine And.intro ?_ ?_; · first | trivial | omega | (intro hg; simp only [Bool.and_eq_true, Bool.or_eq_true, Bool.not_eq_true', Bool.and_eq_false_iff, Bool.or_eq_false_iff, Bool.not_eq_false', decide_eq_true_eq, decide_eq_false_iff_not, eqNil] at hg; omega) | (simp only [List.length_append, List.length_map, List.length_range, List.length_replicate, List.length_take, List.length_drop, List.length_cons, List.length_nil, List.length_set, List.length_reverse]; omega))
      apply hK; clear hK K
      refine awp_block ?_
      refine awp_loopG [9, 78, 79, 80] (fun t : Nat => [(9, .slice (.own k16) 0 N (.exact N)), (78, .slice (.own k1) 0 N (.exact N)), (79, .int .i64 N), (80, .int .i64 t)]) (fun t : Nat => (h.set k1 ⟨intCells us, 0⟩).set k16 ⟨byteCells (chL (us.take t) ++ List.replicate (us.length - t) 0), 0⟩) (fun t : Nat => t ≤ us.length) (fun t : Nat => us.length - t) 0 rfl (by rw [hul]; exact Sub.refl _) (Nat.zero_le _) ?_
      intro t ht
      -- region 18  decimals.go:241
      refine awp_rseq [9, 78, 79, 80, 81] (by rfl) fun K hK => ?_
      simp (decide := true) only [aOps_nil, ev, putD, Slots.put, Slots.get, Slots.keep, if_true, if_false, true_and, ↓ap_binOp, pop_binOp, isNilC_tmp, cond_false, pBinX_int, pI_lss]
      repeat (with_reducible refine And.intro ?_ ?_; · first | trivial | omega | (intro hg; simp only [Bool.and_eq_true, Bool.or_eq_true, Bool.not_eq_true', Bool.and_eq_false_iff, Bool.or_eq_false_iff, Bool.not_eq_false', decide_eq_true_eq, decide_eq_false_iff_not, eqNil] at hg; omega) | (simp only [List.length_append, List.length_map, List.length_range, List.length_replicate, List.length_take, List.length_drop, List.length_cons, List.length_nil, List.length_set, List.length_reverse]; omega))
      apply hK; clear hK K
      refine awp_seq (awp_cond (b := _) rfl (fun hb4 => ?_) (fun hb4 => ?_))
      · try simp only [decide_eq_true_eq] at hb4
        have hg4 := intCells_getD (zs := us) (i := t) (by omega)
        have hz9 : 0 ≤ us.getD t 0 ∧ us.getD t 0 ≤ 9 := by
          have : us.getD t 0 = us[t] := by simp [List.getD, show t < us.length by omega]
          rw [this]
          exact hd9 _ (List.getElem_mem _)
        refine awp_skip ?_
        change Awp _ _ _ _ _ _ _
        refine awp_seq ?_
        refine awp_block ?_
        -- region 19  decimals.go:241
        refine awp_rseq [9, 10, 11, 78, 79, 80] (by rfl) fun K hK => ?_
        simp (decide := true) only [aOps_nil, ev, putD, Slots.put, Slots.get, Slots.keep, if_true, if_false, true_and, ↓ap_move, pop_move, ↓ap_indexAddrL, apL_mk, pIndexAddr_slice Tryz.underlying38 sz3, ↓ap_loadL, pLoad_one ag3, ↓ap_assign, pop_assign, rd_ne', ne_eq, not_false_eq_true, ne_16_1.symm, rd_any, Nat.zero_add, lv_int, Int.toNat_natCast, Nat.mul_one, Nat.zero_add, hg4, lv_int]
        repeat (with_reducible refine And.intro ?_ ?_; · first | trivial | omega | (intro hg; simp only [Bool.and_eq_true, Bool.or_eq_true, Bool.not_eq_true', Bool.and_eq_false_iff, Bool.or_eq_false_iff, Bool.not_eq_false', decide_eq_true_eq, decide_eq_false_iff_not, eqNil] at hg; omega) | (simp only [List.length_append, List.length_map, List.length_range, List.length_replicate, List.length_take, List.length_drop, List.length_cons, List.length_nil, List.length_set, List.length_reverse]; omega))
        apply hK; clear hK K
        -- region 20  decimals.go:242
        refine awp_r [9, 78, 79, 80] (by rfl) ?_
        simp (decide := true) only [ev, absV, absS, putD, Slots.put, Slots.get, if_true, if_false, true_and, ↓ap_move, pop_move, ↓ap_binOp, pop_binOp, isNilC_tmp, cond_false, pBinX_int, pI_add, ↓ap_convert _ _ _ (es_int Tryz.underlying3 Tryz.underlying5), pop_convert, pConv_int Tryz.underlying3 Tryz.underlying5]
        try simp (disch := omega) only [wrap_i64, wrap_u8]
        try simp (decide := true) only [ev, putD, Slots.put, Slots.get, if_true, if_false, ↓ap_indexAddrL, apL_mk, pIndexAddr_slice Tryz.underlying22 sz5, Nat.zero_add, Int.toNat_natCast, Nat.mul_one, Nat.zero_add]
        repeat (with_reducible refine And.intro ?_ ?_; · first | trivial | omega | (intro hg; simp only [Bool.and_eq_true, Bool.or_eq_true, Bool.not_eq_true', Bool.and_eq_false_iff, Bool.or_eq_false_iff, Bool.not_eq_false', decide_eq_true_eq, decide_eq_false_iff_not, eqNil] at hg; omega) | (simp only [List.length_append, List.length_map, List.length_range, List.length_replicate, List.length_take, List.length_drop, List.length_cons, List.length_nil, List.length_set, List.length_reverse]; omega))
        refine aOps_storeByte (i := t) (by rfl) (by rfl) sz5 (by rfl) (by simp only) (by simp [chL]; omega) (Nat.zero_le _) (by omega) (by omega) ?_
        simp (decide := true) only [aOps_nil, putD, Slots.keep, if_true, if_false]
        repeat (with_reducible refine And.intro ?_ ?_; · first | trivial | omega | (intro hg; simp only [Bool.and_eq_true, Bool.or_eq_true, Bool.not_eq_true', Bool.and_eq_false_iff, Bool.or_eq_false_iff, Bool.not_eq_false', decide_eq_true_eq, decide_eq_false_iff_not, eqNil] at hg; omega) | (simp only [List.length_append, List.length_map, List.length_range, List.length_replicate, List.length_take, List.length_drop, List.length_cons, List.length_nil, List.length_set, List.length_reverse]; omega))
        change Awp _ _ _ _ _ _ _
        -- region 21  decimals.go:241
        refine awp_r [9, 78, 79, 80] (by rfl) ?_
        simp (decide := true) only [aOps_nil, ev, absV, absS, putD, Slots.put, Slots.get, Slots.keep, if_true, if_false, true_and, ↓ap_binOp, pop_binOp, isNilC_int, cond_false, pBinX_int, pI_add, ↓ap_move, pop_move]
        try simp (disch := omega) only [wrap_i64]
        repeat (with_reducible refine And.intro ?_ ?_; · first | trivial | omega | (intro hg; simp only [Bool.and_eq_true, Bool.or_eq_true, Bool.not_eq_true', Bool.and_eq_false_iff, Bool.or_eq_false_iff, Bool.not_eq_false', decide_eq_true_eq, decide_eq_false_iff_not, eqNil] at hg; omega) | (simp only [List.length_append, List.length_map, List.length_range, List.length_replicate, List.length_take, List.length_drop, List.length_cons, List.length_nil, List.length_set, List.length_reverse]; omega))
        try simp only [thenA_normal]
        refine ⟨t + 1, rfl, ?_, by omega, by omega⟩
        rw [show UInt8.ofNat (48 + us.getD t 0).toNat = dch (us.getD t 0).toNat by rw [dch]; congr 1; omega, fill_ch us t (by omega)]
        exact Sub.refl _
      · try simp only [decide_eq_false_iff_not] at hb4
        have htl : t = us.length := by omega
        rw [htl, List.take_length, Nat.sub_self, List.replicate_zero, List.append_nil]
        have hcl : (chL us).length = N := by simp [chL, hul]
        refine awp_exit ?_
        change Awp _ _ _ _ _ _ _
        -- region 22  decimals.go:244
        refine awp_rseq [4] (by rfl) fun K hK => ?_
        simp (decide := true) only [aOps_nil, ev, putD, Slots.put, Slots.get, Slots.keep, if_true, if_false, true_and, ↓ap_move, pop_move, ↓ap_convert _ _ _ (es_str Tryz.underlying22 Tryz.underlying9), pop_convert, ↓ap_assign, pop_assign, (IsB.own (w₀ := w₀) (AHeap.set_same (h.set k1 ⟨intCells us, 0⟩) k16 _) hcl.symm (c := .exact N) (Nat.le_refl _)).conv Tryz.underlying22 Tryz.underlying9 Tryz.underlying5]
        try simp (disch := omega) only [Int.tmod_eq_emod_of_nonneg, Int.tdiv_eq_ediv_of_nonneg, wrap_i64, wrap_u8]
        repeat (with_reducible refine And.intro ?_ ?_; · first | trivial | omega | (intro hg; simp only [Bool.and_eq_true, Bool.or_eq_true, Bool.not_eq_true', Bool.and_eq_false_iff, Bool.or_eq_false_iff, Bool.not_eq_false', decide_eq_true_eq, decide_eq_false_iff_not, eqNil] at hg; omega) | (simp only [List.length_append, List.length_map, List.length_range, List.length_replicate, List.length_take, List.length_drop, List.length_cons, List.length_nil, List.length_set, List.length_reverse]; omega))
        apply hK; clear hK K
        refine awp_ret ?_
        try simp only [thenA_ret, inBlockA_ret]
        refine retA_ret h (by repeat (first | exact Sub.refl _ | refine Sub.trans_set ?_ (by assumption))) (resPre_tmp (resPre_nil)) ?_
        simp (decide := true) only [Slots.get, if_true, and_true, resOf_one]
        obtain ⟨e1, e2⟩ := natOf_chL us hd9
        rw [huv] at e1
        rw [fixS_of e2 (show natOf (chL us) = natOf x * natOf y by omega) hcl]
end Go.Proofs.YthiiakghjoeikaaGreatDoor
