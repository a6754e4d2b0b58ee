/-
  Texts of this proof, joined: DcJ, LbB, DcK, DcL.
  Conditions: none.
-/
import Derived.Test.YthiiakghjoeikaaGreatDoorQb
import Derived.Test.YthiiakghjoeikaaGreatDoorQc
import Derived.Lib.ParseIntB
set_option linter.unusedSimpArgs false
set_option linter.unnecessarySimpa false
set_option linter.unusedVariables false
/-
  Contract: times (digits are multiplied).
  Conditions: none.
-/
namespace Go.Proofs.YthiiakghjoeikaaGreatDoor
open Go.AM
open Go.Proofs
open Go.Dec
open Go.Lib (decDigits)
set_option maxRecDepth 100000

theorem fill_ch (zs : List Int) (t : Nat) (ht : t < zs.length) : (chL (zs.take t) ++ List.replicate (zs.length - t) 0).set t (dch (zs.getD t 0).toNat) = chL (zs.take (t + 1)) ++ List.replicate (zs.length - (t + 1)) 0 := by
  have hl : (chL (zs.take t)).length = t := by simp [chL]; omega
  rw [List.set_append_right _ _ (by omega), hl, Nat.sub_self, show zs.length - t = (zs.length - (t + 1)) + 1 by omega, List.replicate_succ, List.set_cons_zero, List.take_add_one, List.getElem?_eq_getElem ht]
  have e : zs.getD t 0 = zs[t] := by simp [List.getD, ht]
  rw [e]
  show _ = (zs.take t ++ [zs[t]]).map _ ++ _
  rw [List.map_append, List.append_assoc]
  rfl
theorem dig_prod {a b : UInt8} (ha : 48 ≤ a.toNat ∧ a.toNat ≤ 57) (hb : 48 ≤ b.toNat ∧ b.toNat ≤ 57) :
    0 ≤ ((a.toNat : Int) - 48) * ((b.toNat : Int) - 48) ∧ ((a.toNat : Int) - 48) * ((b.toNat : Int) - 48) ≤ 81 ∧ ((a.toNat : Int) - 48) * ((b.toNat : Int) - 48) = (dv a * dv b : Nat) := by
  have e1 : ((a.toNat : Int) - 48) = (dv a : Int) := by simp only [dv]; omega
  have e2 : ((b.toNat : Int) - 48) = (dv b : Int) := by simp only [dv]; omega
  have h1 : dv a ≤ 9 := by simp only [dv]; omega
  have h2 : dv b ≤ 9 := by simp only [dv]; omega
  rw [e1, e2, ← Int.natCast_mul]
  have := Nat.mul_le_mul h1 h2
  exact ⟨by omega, by omega, rfl⟩
theorem all_digits {zs : List Int} {n : Nat} (h0 : ∀ j, 0 ≤ zs.getD j 0) (h9 : ∀ j, 1 ≤ j → zs.getD j 0 ≤ 9) (hv : valL zs = (n : Int)) (hn : n < 10 ^ zs.length) : ∀ z ∈ zs, 0 ≤ z ∧ z ≤ 9 := by
  cases zs with
  | nil => intro z hz; cases hz
  | cons a zs =>
    have hpos : ∀ z ∈ zs, 0 ≤ z := fun z hz => by
      obtain ⟨j, hj, rfl⟩ := List.getElem_of_mem hz
      have := h0 (j + 1)
      rw [List.getD_cons_succ, List.getD, List.getElem?_eq_getElem hj] at this
      exact this
    have ha : a ≤ 9 := by
      refine Int.le_of_not_gt fun hgt => ?_
      rw [valL_cons] at hv
      have h1 := valL_nonneg zs hpos
      have h2 : 10 * 10 ^ zs.length ≤ a * 10 ^ zs.length := Int.mul_le_mul_of_nonneg_right (by omega) (Int.pow_nonneg (by omega))
      rw [List.length_cons, Nat.pow_succ] at hn
      have h3 : ((10 ^ zs.length : Nat) : Int) = (10 : Int) ^ zs.length := by rw [Int.natCast_pow]; rfl
      omega
    intro z hz
    rcases List.mem_cons.1 hz with rfl | hz
    · exact ⟨h0 0, ha⟩
    · obtain ⟨j, hj, rfl⟩ := List.getElem_of_mem hz
      have q0 := h0 (j + 1)
      have q9 := h9 (j + 1) (by omega)
      rw [List.getD_cons_succ, List.getD, List.getElem?_eq_getElem hj] at q0 q9
      exact ⟨q0, q9⟩
theorem prod_lt {x y : List UInt8} (hx : x.all dg = true) (hy : y.all dg = true) : natOf x * natOf y < 10 ^ (x.length + y.length) := by
  rw [Nat.pow_add]
  have h1 := natOf_lt x hx
  have h2 := natOf_lt y hy
  exact Nat.mul_lt_mul_of_lt_of_le h1 (Nat.le_of_lt h2) (Nat.pow_pos (by omega))

theorem getD_zeros (n j : Nat) : (List.replicate n (0 : Int)).getD j 0 = 0 := by
  rw [List.getD, List.getElem?_replicate]; split <;> rfl

set_option maxHeartbeats 2000000 in
theorem c_times (w₀ : World) (h : AHeap) (x y : List UInt8) (hx : x.all dg = true) (hy : y.all dg = true) (lx : x.length ≤ 1048576) (ly : y.length ≤ 1048576) :
    ACall Tryz.prog w₀ 48 [.str x, .str y] h (fun v h' => v = .str (fixS (natOf x * natOf y) (x.length + y.length)) ∧ h' = h) := by
  obtain ⟨N, hN⟩ : ∃ N : Nat, N = x.length + y.length := ⟨_, rfl⟩
  have hNi : ((x.length : Int) + y.length).toNat = N := by omega
  rw [← hN]
  refine acall_intro (n := 94) (rs := [.tmp 4]) Tryz.func48 rfl rfl rfl rfl (Nat.le_of_ble_eq_true rfl) ?_
  simp only [initSlots]
  -- region 0  decimals.go:229
  refine awp_rseq [0, 1] (by rfl) fun K hK => ?_
  simp (decide := true) only [aOps_nil, ev, absV, absS, putD, Slots.put, Slots.keep, if_true, if_false, true_and, ↓ap_assign, pop_assign, Nat.zero_add]
  repeat (with_reducible refine And.intro ?_ ?_; · first | trivial | omega | (intro hg; simp only [Bool.and_eq_true, Bool.or_eq_true, Bool.not_eq_true', Bool.and_eq_false_iff, Bool.or_eq_false_iff, Bool.not_eq_false', decide_eq_true_eq, decide_eq_false_iff_not, eqNil] at hg; omega) | (simp only [List.length_append, List.length_map, List.length_range, List.length_replicate, List.length_take, List.length_drop, List.length_cons, List.length_nil, List.length_set, List.length_reverse]; omega))
  apply hK; clear hK K
  -- region 1  decimals.go:230
  refine awp_rseq [0, 1, 5] (by rfl) fun K hK => ?_
  simp (decide := true) only [ev, putD, Slots.put, Slots.get, if_true, if_false, true_and, ↓ap_move, pop_move, ↓ap_len, pop_len, pLen_str Tryz.underlying9, ↓ap_binOp, pop_binOp, isNilC_tmp, cond_false, pBinX_int, pI_add]
  try simp (disch := omega) only [wrap_i64]
  repeat (with_reducible refine And.intro ?_ ?_; · first | trivial | omega | (intro hg; simp only [Bool.and_eq_true, Bool.or_eq_true, Bool.not_eq_true', Bool.and_eq_false_iff, Bool.or_eq_false_iff, Bool.not_eq_false', decide_eq_true_eq, decide_eq_false_iff_not, eqNil] at hg; omega) | (simp only [List.length_append, List.length_map, List.length_range, List.length_replicate, List.length_take, List.length_drop, List.length_cons, List.length_nil, List.length_set, List.length_reverse]; omega))
  refine aOps_makeInts Tryz.underlying38 sz3 by3 ze3 (by rfl) (by rfl) (by omega) (by omega) fun k1 hk1 => ?_
  try have hf_1 : h k1 = none := by first | assumption | (simp only [AHeap.set_none] at hk1; simp only [hk1])
  simp (decide := true) only [aOps_nil, ev, putD, Slots.put, Slots.get, Slots.keep, if_true, if_false, true_and, ↓ap_assign, pop_assign, hNi]
  repeat (with_reducible refine And.intro ?_ ?_; · first | trivial | omega | (intro hg; simp only [Bool.and_eq_true, Bool.or_eq_true, Bool.not_eq_true', Bool.and_eq_false_iff, Bool.or_eq_false_iff, Bool.not_eq_false', decide_eq_true_eq, decide_eq_false_iff_not, eqNil] at hg; omega) | (simp only [List.length_append, List.length_map, List.length_range, List.length_replicate, List.length_take, List.length_drop, List.length_cons, List.length_nil, List.length_set, List.length_reverse]; omega))
  apply hK; clear hK K
  refine awp_seq ?_
  -- region 2  decimals.go:231
  refine awp_rseq [0, 1, 5, 19, 20] (by rfl) fun K hK => ?_
  simp (decide := true) only [aOps_nil, ev, absV, absS, putD, Slots.put, Slots.get, Slots.keep, if_true, if_false, true_and, ↓ap_move, pop_move, ↓ap_len, pop_len, pLen_str Tryz.underlying9]
  repeat (with_reducible refine And.intro ?_ ?_; · first | trivial | omega | (intro hg; simp only [Bool.and_eq_true, Bool.or_eq_true, Bool.not_eq_true', Bool.and_eq_false_iff, Bool.or_eq_false_iff, Bool.not_eq_false', decide_eq_true_eq, decide_eq_false_iff_not, eqNil] at hg; omega) | (simp only [List.length_append, List.length_map, List.length_range, List.length_replicate, List.length_take, List.length_drop, List.length_cons, List.length_nil, List.length_set, List.length_reverse]; omega))
  apply hK; clear hK K
  refine awp_block ?_
  refine awp_loopG [0, 1, 5, 19, 20] (fun g : Nat × List Int => [(0, .str x), (1, .str y), (5, .slice (.own k1) 0 N (.exact N)), (19, .int .i64 x.length), (20, .int .i64 g.1)]) (fun g : Nat × List Int => h.set k1 ⟨intCells g.2, 0⟩) (fun g : Nat × List Int => g.1 ≤ x.length ∧ g.2.length = N ∧ valL g.2 = rowsV x y g.1 0 ∧ ∀ j, 0 ≤ g.2.getD j 0 ∧ g.2.getD j 0 ≤ 81 * (g.1 * 1048576)) (fun g : Nat × List Int => x.length - g.1) (0, List.replicate N 0) rfl (Sub.refl _) ⟨Nat.zero_le _, by simp, by rw [valL_zeros, rowsV_start, List.take_zero, natOf_nil, Nat.zero_mul, Nat.zero_mul]; rfl, fun j => by simp only [getD_zeros]; omega⟩ ?_
  rintro ⟨i, zs⟩ ⟨hi, hzl, hzv, hzb⟩
  simp only at hi hzl hzv hzb
  -- region 3  decimals.go:231
  refine awp_rseq [0, 1, 5, 19, 20, 21] (by rfl) fun K hK => ?_
  simp (decide := true) only [aOps_nil, ev, putD, Slots.put, Slots.get, Slots.keep, if_true, if_false, true_and, ↓ap_binOp, pop_binOp, isNilC_tmp, cond_false, pBinX_int, pI_lss]
  repeat (with_reducible refine And.intro ?_ ?_; · first | trivial | omega | (intro hg; simp only [Bool.and_eq_true, Bool.or_eq_true, Bool.not_eq_true', Bool.and_eq_false_iff, Bool.or_eq_false_iff, Bool.not_eq_false', decide_eq_true_eq, decide_eq_false_iff_not, eqNil] at hg; omega) | (simp only [List.length_append, List.length_map, List.length_range, List.length_replicate, List.length_take, List.length_drop, List.length_cons, List.length_nil, List.length_set, List.length_reverse]; omega))
  apply hK; clear hK K
  refine awp_seq (awp_cond (b := _) rfl (fun hb1 => ?_) (fun hb1 => ?_))
  · try simp only [decide_eq_true_eq] at hb1
    refine awp_skip ?_
    change Awp _ _ _ _ _ _ _
    refine awp_seq ?_
    refine awp_block ?_
    -- region 4  decimals.go:231
    refine awp_rseq [0, 1, 5, 6, 19, 20] (by rfl) fun K hK => ?_
    simp (decide := true) only [aOps_nil, ev, putD, Slots.put, Slots.get, Slots.keep, if_true, if_false, true_and, ↓ap_move, pop_move, ↓ap_assign, pop_assign]
    repeat (with_reducible refine And.intro ?_ ?_; · first | trivial | omega | (intro hg; simp only [Bool.and_eq_true, Bool.or_eq_true, Bool.not_eq_true', Bool.and_eq_false_iff, Bool.or_eq_false_iff, Bool.not_eq_false', decide_eq_true_eq, decide_eq_false_iff_not, eqNil] at hg; omega) | (simp only [List.length_append, List.length_map, List.length_range, List.length_replicate, List.length_take, List.length_drop, List.length_cons, List.length_nil, List.length_set, List.length_reverse]; omega))
    apply hK; clear hK K
    -- region 5  decimals.go:232
    refine awp_rseq [0, 1, 5, 6, 19, 20, 24, 25] (by rfl) fun K hK => ?_
    simp (decide := true) only [aOps_nil, ev, absV, absS, putD, Slots.put, Slots.get, Slots.keep, if_true, if_false, true_and, ↓ap_move, pop_move, ↓ap_len, pop_len, pLen_str Tryz.underlying9]
    repeat (with_reducible refine And.intro ?_ ?_; · first | trivial | omega | (intro hg; simp only [Bool.and_eq_true, Bool.or_eq_true, Bool.not_eq_true', Bool.and_eq_false_iff, Bool.or_eq_false_iff, Bool.not_eq_false', decide_eq_true_eq, decide_eq_false_iff_not, eqNil] at hg; omega) | (simp only [List.length_append, List.length_map, List.length_range, List.length_replicate, List.length_take, List.length_drop, List.length_cons, List.length_nil, List.length_set, List.length_reverse]; omega))
    apply hK; clear hK K
    refine awp_block ?_
    refine awp_loopG [0, 1, 5, 6, 19, 20, 24, 25] (fun g : Nat × List Int => [(0, .str x), (1, .str y), (5, .slice (.own k1) 0 N (.exact N)), (6, .int .i64 i), (19, .int .i64 x.length), (20, .int .i64 i), (24, .int .i64 y.length), (25, .int .i64 g.1)]) (fun g : Nat × List Int => h.set k1 ⟨intCells g.2, 0⟩) (fun g : Nat × List Int => g.1 ≤ y.length ∧ g.2.length = N ∧ valL g.2 = rowsV x y i g.1 ∧ ∀ j, 0 ≤ g.2.getD j 0 ∧ g.2.getD j 0 ≤ 81 * (i * 1048576 + g.1)) (fun g : Nat × List Int => y.length - g.1) (0, zs) rfl (Sub.refl _) ⟨Nat.zero_le _, hzl, hzv, fun j => by have := hzb j; simp only; omega⟩ ?_
    rintro ⟨k, us⟩ ⟨hk, hul, huv, hub⟩
    simp only at hk hul huv hub
    -- region 6  decimals.go:232
    refine awp_rseq [0, 1, 5, 6, 19, 20, 24, 25, 26] (by rfl) fun K hK => ?_
    simp (decide := true) only [aOps_nil, ev, putD, Slots.put, Slots.get, Slots.keep, if_true, if_false, true_and, ↓ap_binOp, pop_binOp, isNilC_tmp, cond_false, pBinX_int, pI_lss]
    repeat (with_reducible refine And.intro ?_ ?_; · first | trivial | omega | (intro hg; simp only [Bool.and_eq_true, Bool.or_eq_true, Bool.not_eq_true', Bool.and_eq_false_iff, Bool.or_eq_false_iff, Bool.not_eq_false', decide_eq_true_eq, decide_eq_false_iff_not, eqNil] at hg; omega) | (simp only [List.length_append, List.length_map, List.length_range, List.length_replicate, List.length_take, List.length_drop, List.length_cons, List.length_nil, List.length_set, List.length_reverse]; omega))
    apply hK; clear hK K
    refine awp_seq (awp_cond (b := _) rfl (fun hb2 => ?_) (fun hb2 => ?_))
    · try simp only [decide_eq_true_eq] at hb2
      have hxi := dg_at hx i (by omega)
      have hyk := dg_at hy k (by omega)
      obtain ⟨hp0, hp81, hpv⟩ := dig_prod hxi hyk
      have hidx2 : ((i : Int) + k + 1).toNat = i + k + 1 := by omega
      have hget := intCells_getD (zs := us) (i := i + k + 1) (by omega)
      have hb := hub (i + k + 1)
      refine awp_skip ?_
      change Awp _ _ _ _ _ _ _
      refine awp_seq ?_
      refine awp_block ?_
      -- region 7  decimals.go:232
      refine awp_rseq [0, 1, 5, 6, 7, 19, 20, 24, 25] (by rfl) fun K hK => ?_
      simp (decide := true) only [aOps_nil, ev, putD, Slots.put, Slots.get, Slots.keep, if_true, if_false, true_and, ↓ap_move, pop_move, ↓ap_assign, pop_assign]
      repeat (with_reducible refine And.intro ?_ ?_; · first | trivial | omega | (intro hg; simp only [Bool.and_eq_true, Bool.or_eq_true, Bool.not_eq_true', Bool.and_eq_false_iff, Bool.or_eq_false_iff, Bool.not_eq_false', decide_eq_true_eq, decide_eq_false_iff_not, eqNil] at hg; omega) | (simp only [List.length_append, List.length_map, List.length_range, List.length_replicate, List.length_take, List.length_drop, List.length_cons, List.length_nil, List.length_set, List.length_reverse]; omega))
      apply hK; clear hK K
      -- region 8  decimals.go:233
      refine awp_draw_tail 20 mixed (by kernel_rfl) (by rfl) (by rfl) ?_
      simp (decide := true) only [ev, absV, absS, putD, Slots.put, Slots.get, if_true, if_false, true_and, ↓ap_move, pop_move, ↓ap_binOp, pop_binOp, isNilC_tmp, cond_false, pBinX_int, pI_add, isNilC_int]
      try simp (disch := omega) only [wrap_i64]
      try simp (decide := true) only [ev, absV, absS, putD, Slots.put, Slots.get, if_true, if_false, true_and, ↓ap_indexAddrL, apL_mk, pIndexAddr_slice Tryz.underlying38 sz3, ↓ap_loadL, pLoad_one ag3, ↓ap_move, pop_move, ↓ap_index, pop_index, pIndex_str Tryz.underlying9, ↓ap_binOp, pop_binOp, isNilC_int, cond_false, pBinX_int, pI_sub, ↓ap_convert _ _ _ (es_int Tryz.underlying5 Tryz.underlying3), pop_convert, pConv_int Tryz.underlying5 Tryz.underlying3, rd_any, Nat.zero_add, lv_int, Int.toNat_natCast, hidx2, Nat.mul_one, Nat.zero_add, hget, Int.toNat_natCast, lv_int]
      try simp (disch := omega) only [wrap_i64, wrap_u8]
      try simp (decide := true) only [true_and, cond_false, pBinX_int, isNilC_tmp, pI_mul, pI_add]
      try simp (disch := omega) only [wrap_i64]
      try simp (decide := true) only [aOps_nil, vOps_nil, fOps_nil, kOps_nil, ev, absV, absS, putD, Slots.put, Slots.get, Slots.keep, if_true, if_false, List.contains_cons, List.contains_nil, true_and, and_true, ↓ap_indexAddrL, apL_mk, pIndexAddr_slice Tryz.underlying38 sz3, rd_ne', ne_eq, not_false_eq_true, rd_any, AVal.cells, setAt, List.set_cons_zero, List.set_cons_succ, cellsAt, List.getD_cons_zero, List.getD_cons_succ, Nat.zero_add, Nat.reduceAdd, lv_bool, lv_int, lv_str, lv_nilPtr, lv_ptr, lv_nilSlice, lv_slice, lv_nilFunc, lv_func, lv_nilIface, lv_iface, lv_nilMap, lv_agg, lv_tuple, allLive, Bool.and_true, decA, hNi, Int.toNat_natCast, hidx2, Nat.mul_one, Nat.zero_add, hget, Int.toNat_natCast, lv_int]
      repeat (with_reducible refine And.intro ?_ ?_; · first | trivial | omega | (intro hg; simp only [Bool.and_eq_true, Bool.or_eq_true, Bool.not_eq_true', Bool.and_eq_false_iff, Bool.or_eq_false_iff, Bool.not_eq_false', decide_eq_true_eq, decide_eq_false_iff_not, eqNil] at hg; omega) | (simp only [List.length_append, List.length_map, List.length_range, List.length_replicate, List.length_take, List.length_drop, List.length_cons, List.length_nil, List.length_set, List.length_reverse]; omega))
      refine aOps_storeInt (i := i + k + 1) (by rfl) (by rfl) sz3 (by rfl) (by simp only) (by omega) (Nat.zero_le _) ?_
      simp (decide := true) only [aOps_nil, putD]
      repeat (with_reducible refine And.intro ?_ ?_; · first | trivial | omega | (intro hg; simp only [Bool.and_eq_true, Bool.or_eq_true, Bool.not_eq_true', Bool.and_eq_false_iff, Bool.or_eq_false_iff, Bool.not_eq_false', decide_eq_true_eq, decide_eq_false_iff_not, eqNil] at hg; omega) | (simp only [List.length_append, List.length_map, List.length_range, List.length_replicate, List.length_take, List.length_drop, List.length_cons, List.length_nil, List.length_set, List.length_reverse]; omega))
      change Awp _ _ _ _ _ _ _
      -- region 9  decimals.go:232
      refine awp_r [0, 1, 5, 6, 19, 20, 24, 25] (by rfl) ?_
      simp (decide := true) only [aOps_nil, ev, absV, absS, putD, Slots.put, Slots.get, Slots.keep, if_true, if_false, true_and, ↓ap_binOp, pop_binOp, isNilC_int, cond_false, pBinX_int, pI_add, ↓ap_move, pop_move]
      try simp (disch := omega) only [wrap_i64]
      repeat (with_reducible refine And.intro ?_ ?_; · first | trivial | omega | (intro hg; simp only [Bool.and_eq_true, Bool.or_eq_true, Bool.not_eq_true', Bool.and_eq_false_iff, Bool.or_eq_false_iff, Bool.not_eq_false', decide_eq_true_eq, decide_eq_false_iff_not, eqNil] at hg; omega) | (simp only [List.length_append, List.length_map, List.length_range, List.length_replicate, List.length_take, List.length_drop, List.length_cons, List.length_nil, List.length_set, List.length_reverse]; omega))
      try simp only [thenA_normal]
      refine ⟨(k + 1, us.set (i + k + 1) (us.getD (i + k + 1) 0 + ((((x.getD i 0).toNat : Int) - 48) * (((y.getD k 0).toNat : Int) - 48)))), rfl, Sub.refl _, ⟨by simp only; omega, by simp [hul], ?_, fun j => ?_⟩, by simp only; omega⟩
      · simp only
        rw [valL_set _ _ _ (by omega), huv, rowsV_col x y i k (by omega) (by omega), hpv, hul, hN, show us.getD (i + k + 1) 0 + ((dv (x.getD i 0) * dv (y.getD k 0) : Nat) : Int) - us.getD (i + k + 1) 0 = ((dv (x.getD i 0) * dv (y.getD k 0) : Nat) : Int) by omega]
      · by_cases e : i + k + 1 = j
        · subst e
          simp only
          rw [getL_set_self _ _ _ _ (by omega)]
          omega
        · simp only
          rw [getL_set_ne _ _ _ _ _ e]
          have := hub j
          omega
    · try simp only [decide_eq_false_iff_not] at hb2
      refine awp_exit ?_
      change Awp _ _ _ _ _ _ _
      -- region 10  decimals.go:231
      refine awp_r [0, 1, 5, 19, 20] (by rfl) ?_
      simp (decide := true) only [aOps_nil, ev, absV, absS, putD, Slots.put, Slots.get, Slots.keep, if_true, if_false, true_and, ↓ap_binOp, pop_binOp, isNilC_int, cond_false, pBinX_int, pI_add, ↓ap_move, pop_move]
      try simp (disch := omega) only [wrap_i64]
      repeat (with_reducible refine And.intro ?_ ?_; · first | trivial | omega | (intro hg; simp only [Bool.and_eq_true, Bool.or_eq_true, Bool.not_eq_true', Bool.and_eq_false_iff, Bool.or_eq_false_iff, Bool.not_eq_false', decide_eq_true_eq, decide_eq_false_iff_not, eqNil] at hg; omega) | (simp only [List.length_append, List.length_map, List.length_range, List.length_replicate, List.length_take, List.length_drop, List.length_cons, List.length_nil, List.length_set, List.length_reverse]; omega))
      try simp only [thenA_normal]
      have hky : k = y.length := by omega
      refine ⟨(i + 1, us), rfl, Sub.refl _, ⟨by simp only; omega, hul, by simp only; rw [huv, hky, rowsV_row x y i (by omega)], fun j => ?_⟩, by simp only; omega⟩
      have := hub j
      simp only
      omega
  · try simp only [decide_eq_false_iff_not] at hb1
    have hil : i = x.length := by omega
    have hzv' : valL zs = (natOf x * natOf y : Nat) := by rw [hzv, hil, rowsV_end]
    refine awp_exit ?_
    change Awp _ _ _ _ _ _ _
    refine awp_seq ?_
    -- region 11  decimals.go:236
    refine awp_rseq [5, 8] (by rfl) fun K hK => ?_
    simp (decide := true) only [aOps_nil, ev, absV, absS, putD, Slots.put, Slots.get, Slots.keep, if_true, if_false, true_and, ↓ap_move, pop_move, ↓ap_len, pop_len, pLen_slice Tryz.underlying38, ↓ap_binOp, pop_binOp, isNilC_int, cond_false, pBinX_int, pI_sub, ↓ap_assign, pop_assign]
    try simp (disch := omega) only [wrap_i64]
    repeat (with_reducible refine And.intro ?_ ?_; · first | trivial | omega | (intro hg; simp only [Bool.and_eq_true, Bool.or_eq_true, Bool.not_eq_true', Bool.and_eq_false_iff, Bool.or_eq_false_iff, Bool.not_eq_false', decide_eq_true_eq, decide_eq_false_iff_not, eqNil] at hg; omega) | (simp only [List.length_append, List.length_map, List.length_range, List.length_replicate, List.length_take, List.length_drop, List.length_cons, List.length_nil, List.length_set, List.length_reverse]; omega))
    apply hK; clear hK K
    refine awp_block ?_
    refine awp_loopG [5, 8] (fun g : Nat × List Int => [(5, .slice (.own k1) 0 N (.exact N)), (8, .int .i64 ((g.1 : Int) - 1))]) (fun g : Nat × List Int => h.set k1 ⟨intCells g.2, 0⟩) (fun g : Nat × List Int => g.1 ≤ N ∧ g.2.length = N ∧ valL g.2 = (natOf x * natOf y : Nat) ∧ (∀ j, 0 ≤ g.2.getD j 0) ∧ (∀ j, g.1 ≤ j → g.2.getD j 0 ≤ 9) ∧ (∀ j, g.2.getD j 0 ≤ 200000000000000) ∧ (∀ j, j + 1 < g.1 → g.2.getD j 0 ≤ 100000000000000)) (fun g : Nat × List Int => g.1) (N, zs) rfl (Sub.refl _) ⟨Nat.le_refl _, hzl, hzv', fun j => (hzb j).1, fun j hj => by simp only at hj ⊢; rw [List.getD, List.getElem?_eq_none (by omega)]; decide, fun j => by have := (hzb j).2; simp only; omega, fun j _ => by have := (hzb j).2; simp only; omega⟩ ?_
    rintro ⟨m, us⟩ ⟨hm, hul, huv, hu0, hu9, hu2, hu1⟩
    simp only at hm hul huv hu0 hu9 hu2 hu1
    refine awp_seq ?_
    -- region 12  decimals.go:236
    refine awp_rseq [5, 8, 54] (by rfl) fun K hK => ?_
    simp (decide := true) only [aOps_nil, ev, absV, absS, putD, Slots.put, Slots.get, Slots.keep, if_true, if_false, true_and, ↓ap_move, pop_move, ↓ap_binOp, pop_binOp, isNilC_int, cond_false, pBinX_int, pI_gtr]
    repeat (with_reducible refine And.intro ?_ ?_; · first | trivial | omega | (intro hg; simp only [Bool.and_eq_true, Bool.or_eq_true, Bool.not_eq_true', Bool.and_eq_false_iff, Bool.or_eq_false_iff, Bool.not_eq_false', decide_eq_true_eq, decide_eq_false_iff_not, eqNil] at hg; omega) | (simp only [List.length_append, List.length_map, List.length_range, List.length_replicate, List.length_take, List.length_drop, List.length_cons, List.length_nil, List.length_set, List.length_reverse]; omega))
    apply hK; clear hK K
    refine awp_cond (b := _) rfl (fun hb3 => ?_) (fun hb3 => ?_)
    · try simp only [decide_eq_true_eq] at hb3
      obtain ⟨q, rfl⟩ : ∃ q, m = q + 2 := ⟨m - 2, by omega⟩
      have hq1 : (((q + 2 : Nat) : Int) - 1 - 1).toNat = q := by omega
      have hq2 : (((q + 2 : Nat) : Int) - 1).toNat = q + 1 := by omega
      have hg1 := intCells_getD (zs := us) (i := q) (by omega)
      have hg2 := intCells_getD (zs := us) (i := q + 1) (by omega)
      have b1 := hu0 q
      have b2 := hu0 (q + 1)
      have b3 := hu2 (q + 1)
      have b4 := hu1 q (by omega)
      have hg3 : (intCells (us.set q (us.getD q 0 + us.getD (q + 1) 0 / 10))).getD (q + 1) .dead = .int .i64 (us.getD (q + 1) 0) := by
        rw [intCells_getD (by rw [List.length_set]; omega), getL_set_ne _ _ _ _ _ (by omega)]
      refine awp_skip ?_
      change Awp _ _ _ _ _ _ _
      refine awp_seq ?_
      refine awp_block ?_
      -- region 14  decimals.go:237
      refine awp_dseq_tail 12 [5, 8] mixed (by kernel_rfl) (by rfl) (by rfl) fun K hK => ?_
      simp (decide := true) only [ev, absV, absS, putD, Slots.put, Slots.get, if_true, if_false, true_and, ↓ap_move, pop_move, ↓ap_binOp, pop_binOp, isNilC_int, cond_false, pBinX_int, pI_sub]
      try simp (disch := omega) only [wrap_i64]
      try simp (decide := true) only [ev, absV, absS, putD, Slots.put, Slots.get, if_true, if_false, true_and, ↓ap_indexAddrL, apL_mk, pIndexAddr_slice Tryz.underlying38 sz3, ↓ap_loadL, pLoad_one ag3, ↓ap_move, pop_move, ↓ap_binOp, pop_binOp, isNilC_int, cond_false, pBinX_int, pI_quo, isNilC_tmp, pI_add, rd_any, Nat.zero_add, lv_int, hq1, hq2, Nat.mul_one, Nat.zero_add, hg1, hg2, lv_int]
      try simp (disch := omega) only [Int.tdiv_eq_ediv_of_nonneg, wrap_i64]
      try simp (decide := true) only [aOps_nil, vOps_nil, fOps_nil, kOps_nil, ev, absV, absS, putD, Slots.put, Slots.get, Slots.keep, if_true, if_false, List.contains_cons, List.contains_nil, true_and, and_true, ↓ap_indexAddrL, apL_mk, pIndexAddr_slice Tryz.underlying38 sz3, rd_ne', ne_eq, not_false_eq_true, rd_any, AVal.cells, setAt, List.set_cons_zero, List.set_cons_succ, cellsAt, List.getD_cons_zero, List.getD_cons_succ, Nat.zero_add, Nat.reduceAdd, lv_bool, lv_int, lv_str, lv_nilPtr, lv_ptr, lv_nilSlice, lv_slice, lv_nilFunc, lv_func, lv_nilIface, lv_iface, lv_nilMap, lv_agg, lv_tuple, allLive, Bool.and_true, decA, hNi, Int.toNat_natCast, hq1, hq2, Nat.mul_one, Nat.zero_add, hg1, hg2, lv_int]
      repeat (with_reducible refine And.intro ?_ ?_; · first | trivial | omega | (intro hg; simp only [Bool.and_eq_true, Bool.or_eq_true, Bool.not_eq_true', Bool.and_eq_false_iff, Bool.or_eq_false_iff, Bool.not_eq_false', decide_eq_true_eq, decide_eq_false_iff_not, eqNil] at hg; omega) | (simp only [List.length_append, List.length_map, List.length_range, List.length_replicate, List.length_take, List.length_drop, List.length_cons, List.length_nil, List.length_set, List.length_reverse]; omega))
      refine aOps_storeInt (i := q) (by rfl) (by rfl) sz3 (by rfl) (by simp only) (by omega) (Nat.zero_le _) ?_
      simp (decide := true) only [aOps_nil, putD, Slots.keep, if_true, if_false]
      repeat (with_reducible refine And.intro ?_ ?_; · first | trivial | omega | (intro hg; simp only [Bool.and_eq_true, Bool.or_eq_true, Bool.not_eq_true', Bool.and_eq_false_iff, Bool.or_eq_false_iff, Bool.not_eq_false', decide_eq_true_eq, decide_eq_false_iff_not, eqNil] at hg; omega) | (simp only [List.length_append, List.length_map, List.length_range, List.length_replicate, List.length_take, List.length_drop, List.length_cons, List.length_nil, List.length_set, List.length_reverse]; omega))
      apply hK; clear hK K
      -- region 15  decimals.go:238
      refine awp_r [5, 8] (by rfl) ?_
      simp (decide := true) only [ev, absV, absS, putD, Slots.put, Slots.get, if_true, if_false, true_and, ↓ap_move, pop_move, ↓ap_indexAddrL, apL_mk, pIndexAddr_slice Tryz.underlying38 sz3, ↓ap_loadL, pLoad_one ag3, ↓ap_binOp, pop_binOp, isNilC_int, cond_false, pBinX_int, pI_rem, rd_any, Nat.zero_add, lv_int, hq2, Nat.mul_one, Nat.zero_add, hg3, lv_int]
      try simp (disch := omega) only [Int.tmod_eq_emod_of_nonneg]
      try simp (decide := true) only [aOps_nil, vOps_nil, fOps_nil, kOps_nil, ev, absV, absS, putD, Slots.put, Slots.get, Slots.keep, if_true, if_false, List.contains_cons, List.contains_nil, true_and, and_true, ↓ap_indexAddrL, apL_mk, pIndexAddr_slice Tryz.underlying38 sz3, rd_ne', ne_eq, not_false_eq_true, rd_any, AVal.cells, setAt, List.set_cons_zero, List.set_cons_succ, cellsAt, List.getD_cons_zero, List.getD_cons_succ, Nat.zero_add, Nat.reduceAdd, lv_bool, lv_int, lv_str, lv_nilPtr, lv_ptr, lv_nilSlice, lv_slice, lv_nilFunc, lv_func, lv_nilIface, lv_iface, lv_nilMap, lv_agg, lv_tuple, allLive, Bool.and_true, decA, hNi, Int.toNat_natCast, hq2, Nat.mul_one, Nat.zero_add, hg3, lv_int]
      repeat (with_reducible refine And.intro ?_ ?_; · first | trivial | omega | (intro hg; simp only [Bool.and_eq_true, Bool.or_eq_true, Bool.not_eq_true', Bool.and_eq_false_iff, Bool.or_eq_false_iff, Bool.not_eq_false', decide_eq_true_eq, decide_eq_false_iff_not, eqNil] at hg; omega) | (simp only [List.length_append, List.length_map, List.length_range, List.length_replicate, List.length_take, List.length_drop, List.length_cons, List.length_nil, List.length_set, List.length_reverse]; omega))
      refine aOps_storeInt (i := q + 1) (by rfl) (by rfl) sz3 (by rfl) (by simp only) (by rw [List.length_set]; omega) (Nat.zero_le _) ?_
      simp (decide := true) only [aOps_nil, putD, Slots.keep, if_true, if_false]
      repeat (with_reducible refine And.intro ?_ ?_; · first | trivial | omega | (intro hg; simp only [Bool.and_eq_true, Bool.or_eq_true, Bool.not_eq_true', Bool.and_eq_false_iff, Bool.or_eq_false_iff, Bool.not_eq_false', decide_eq_true_eq, decide_eq_false_iff_not, eqNil] at hg; omega) | (simp only [List.length_append, List.length_map, List.length_range, List.length_replicate, List.length_take, List.length_drop, List.length_cons, List.length_nil, List.length_set, List.length_reverse]; omega))
      change Awp _ _ _ _ _ _ _
      -- region 13  decimals.go:236
      refine awp_r [5, 8] (by rfl) ?_
      simp (decide := true) only [aOps_nil, ev, absV, absS, putD, Slots.put, Slots.get, Slots.keep, if_true, if_false, true_and, ↓ap_move, pop_move, ↓ap_binOp, pop_binOp, isNilC_int, cond_false, pBinX_int, pI_sub, ↓ap_assign, pop_assign]
      try simp (disch := omega) only [wrap_i64]
      repeat (with_reducible refine And.intro ?_ ?_; · first | trivial | omega | (intro hg; simp only [Bool.and_eq_true, Bool.or_eq_true, Bool.not_eq_true', Bool.and_eq_false_iff, Bool.or_eq_false_iff, Bool.not_eq_false', decide_eq_true_eq, decide_eq_false_iff_not, eqNil] at hg; omega) | (simp only [List.length_append, List.length_map, List.length_range, List.length_replicate, List.length_take, List.length_drop, List.length_cons, List.length_nil, List.length_set, List.length_reverse]; omega))
      try simp only [thenA_normal]
      refine ⟨(q + 1, (us.set q (us.getD q 0 + us.getD (q + 1) 0 / 10)).set (q + 1) (us.getD (q + 1) 0 % 10)), ?_, Sub.refl _, ⟨by simp only; omega, by simp [hul], by simp only; rw [valL_carry us q (by omega), huv], fun j => ?_, fun j hj => ?_, fun j => ?_, fun j hj => ?_⟩, by simp only; omega⟩
      · rw [show (((q + 1 : Nat) : Int) - 1) = ((q + 2 : Nat) : Int) - 1 - 1 by omega]; rfl
      all_goals
        have c1 := hu0 j
        have c2 := hu2 j
        by_cases e : q + 1 = j
        · subst e
          simp only at *
          rw [getL_set_self _ _ _ _ (by rw [List.length_set]; omega)]
          omega
        · simp only at *
          rw [getL_set_ne _ _ _ _ _ e]
          by_cases e2 : q = j
          · subst e2
            rw [getL_set_self _ _ _ _ (by omega)]
            omega
          · rw [getL_set_ne _ _ _ _ _ e2]
            first | omega | (have := hu9 j (by omega); omega) | (have := hu1 j (by omega); omega)
    · try simp only [decide_eq_false_iff_not] at hb3
      have hd9 : ∀ z ∈ us, 0 ≤ z ∧ z ≤ 9 := all_digits hu0 (fun j hj => hu9 j (by omega)) huv (by rw [hul, hN]; exact prod_lt hx hy)
      refine awp_exit ?_
      change Awp _ _ _ _ _ _ _
      -- region 16  decimals.go:240
      refine awp_rseq [5, 9] (by rfl) fun K hK => ?_
      simp (decide := true) only [ev, putD, Slots.put, Slots.get, if_true, if_false, true_and, ↓ap_move, pop_move, ↓ap_len, pop_len, pLen_slice Tryz.underlying38]
      repeat (with_reducible refine And.intro ?_ ?_; · first | trivial | omega | (intro hg; simp only [Bool.and_eq_true, Bool.or_eq_true, Bool.not_eq_true', Bool.and_eq_false_iff, Bool.or_eq_false_iff, Bool.not_eq_false', decide_eq_true_eq, decide_eq_false_iff_not, eqNil] at hg; omega) | (simp only [List.length_append, List.length_map, List.length_range, List.length_replicate, List.length_take, List.length_drop, List.length_cons, List.length_nil, List.length_set, List.length_reverse]; omega))
      refine aOps_makeBytes Tryz.underlying22 sz5 by5 ze5 (by rfl) (by rfl) (by omega) (by omega) fun k16 hk16 => ?_
      have ne_16_1 : k16 ≠ k1 := by simp only [AHeap.set_none] at hk16; simp only [hk16, ne_eq, not_false_eq_true]
      try have hf_16 : h k16 = none := by first | assumption | (simp only [AHeap.set_none] at hk16; simp only [hk16])
      simp (decide := true) only [aOps_nil, ev, putD, Slots.put, Slots.get, Slots.keep, if_true, if_false, true_and, ↓ap_assign, pop_assign, Int.toNat_natCast]
      repeat (with_reducible refine And.intro ?_ ?_; · first | trivial | omega | (intro hg; simp only [Bool.and_eq_true, Bool.or_eq_true, Bool.not_eq_true', Bool.and_eq_false_iff, Bool.or_eq_false_iff, Bool.not_eq_false', decide_eq_true_eq, decide_eq_false_iff_not, eqNil] at hg; omega) | (simp only [List.length_append, List.length_map, List.length_range, List.length_replicate, List.length_take, List.length_drop, List.length_cons, List.length_nil, List.length_set, List.length_reverse]; omega))
      apply hK; clear hK K
      refine awp_seq ?_
      -- region 17  decimals.go:241
      refine awp_rseq [9, 78, 79, 80] (by rfl) fun K hK => ?_
      simp (decide := true) only [aOps_nil, ev, absV, absS, putD, Slots.put, Slots.get, Slots.keep, if_true, if_false, true_and, ↓ap_move, pop_move, ↓ap_len, pop_len, pLen_slice Tryz.underlying38]
      repeat (with_reducible refine And.intro ?_ ?_; · first | trivial | omega | (intro hg; simp only [Bool.and_eq_true, Bool.or_eq_true, Bool.not_eq_true', Bool.and_eq_false_iff, Bool.or_eq_false_iff, Bool.not_eq_false', decide_eq_true_eq, decide_eq_false_iff_not, eqNil] at hg; omega) | (simp only [List.length_append, List.length_map, List.length_range, List.length_replicate, List.length_take, List.length_drop, List.length_cons, List.length_nil, List.length_set, List.length_reverse]; omega))
      apply hK; clear hK K
      refine awp_block ?_
      refine awp_loopG [9, 78, 79, 80] (fun t : Nat => [(9, .slice (.own k16) 0 N (.exact N)), (78, .slice (.own k1) 0 N (.exact N)), (79, .int .i64 N), (80, .int .i64 t)]) (fun t : Nat => (h.set k1 ⟨intCells us, 0⟩).set k16 ⟨byteCells (chL (us.take t) ++ List.replicate (us.length - t) 0), 0⟩) (fun t : Nat => t ≤ us.length) (fun t : Nat => us.length - t) 0 rfl (by rw [hul]; exact Sub.refl _) (Nat.zero_le _) ?_
      intro t ht
      -- region 18  decimals.go:241
      refine awp_rseq [9, 78, 79, 80, 81] (by rfl) fun K hK => ?_
      simp (decide := true) only [aOps_nil, ev, putD, Slots.put, Slots.get, Slots.keep, if_true, if_false, true_and, ↓ap_binOp, pop_binOp, isNilC_tmp, cond_false, pBinX_int, pI_lss]
      repeat (with_reducible refine And.intro ?_ ?_; · first | trivial | omega | (intro hg; simp only [Bool.and_eq_true, Bool.or_eq_true, Bool.not_eq_true', Bool.and_eq_false_iff, Bool.or_eq_false_iff, Bool.not_eq_false', decide_eq_true_eq, decide_eq_false_iff_not, eqNil] at hg; omega) | (simp only [List.length_append, List.length_map, List.length_range, List.length_replicate, List.length_take, List.length_drop, List.length_cons, List.length_nil, List.length_set, List.length_reverse]; omega))
      apply hK; clear hK K
      refine awp_seq (awp_cond (b := _) rfl (fun hb4 => ?_) (fun hb4 => ?_))
      · try simp only [decide_eq_true_eq] at hb4
        have hg4 := intCells_getD (zs := us) (i := t) (by omega)
        have hz9 : 0 ≤ us.getD t 0 ∧ us.getD t 0 ≤ 9 := by
          have : us.getD t 0 = us[t] := by simp [List.getD, show t < us.length by omega]
          rw [this]
          exact hd9 _ (List.getElem_mem _)
        refine awp_skip ?_
        change Awp _ _ _ _ _ _ _
        refine awp_seq ?_
        refine awp_block ?_
        -- region 19  decimals.go:241
        refine awp_rseq [9, 10, 11, 78, 79, 80] (by rfl) fun K hK => ?_
        simp (decide := true) only [aOps_nil, ev, putD, Slots.put, Slots.get, Slots.keep, if_true, if_false, true_and, ↓ap_move, pop_move, ↓ap_indexAddrL, apL_mk, pIndexAddr_slice Tryz.underlying38 sz3, ↓ap_loadL, pLoad_one ag3, ↓ap_assign, pop_assign, rd_ne', ne_eq, not_false_eq_true, ne_16_1.symm, rd_any, Nat.zero_add, lv_int, Int.toNat_natCast, Nat.mul_one, Nat.zero_add, hg4, lv_int]
        repeat (with_reducible refine And.intro ?_ ?_; · first | trivial | omega | (intro hg; simp only [Bool.and_eq_true, Bool.or_eq_true, Bool.not_eq_true', Bool.and_eq_false_iff, Bool.or_eq_false_iff, Bool.not_eq_false', decide_eq_true_eq, decide_eq_false_iff_not, eqNil] at hg; omega) | (simp only [List.length_append, List.length_map, List.length_range, List.length_replicate, List.length_take, List.length_drop, List.length_cons, List.length_nil, List.length_set, List.length_reverse]; omega))
        apply hK; clear hK K
        -- region 20  decimals.go:242
        refine awp_r [9, 78, 79, 80] (by rfl) ?_
        simp (decide := true) only [ev, absV, absS, putD, Slots.put, Slots.get, if_true, if_false, true_and, ↓ap_move, pop_move, ↓ap_binOp, pop_binOp, isNilC_tmp, cond_false, pBinX_int, pI_add, ↓ap_convert _ _ _ (es_int Tryz.underlying3 Tryz.underlying5), pop_convert, pConv_int Tryz.underlying3 Tryz.underlying5]
        try simp (disch := omega) only [wrap_i64, wrap_u8]
        try simp (decide := true) only [ev, putD, Slots.put, Slots.get, if_true, if_false, ↓ap_indexAddrL, apL_mk, pIndexAddr_slice Tryz.underlying22 sz5, Nat.zero_add, Int.toNat_natCast, Nat.mul_one, Nat.zero_add]
        repeat (with_reducible refine And.intro ?_ ?_; · first | trivial | omega | (intro hg; simp only [Bool.and_eq_true, Bool.or_eq_true, Bool.not_eq_true', Bool.and_eq_false_iff, Bool.or_eq_false_iff, Bool.not_eq_false', decide_eq_true_eq, decide_eq_false_iff_not, eqNil] at hg; omega) | (simp only [List.length_append, List.length_map, List.length_range, List.length_replicate, List.length_take, List.length_drop, List.length_cons, List.length_nil, List.length_set, List.length_reverse]; omega))
        refine aOps_storeByte (i := t) (by rfl) (by rfl) sz5 (by rfl) (by simp only) (by simp [chL]; omega) (Nat.zero_le _) (by omega) (by omega) ?_
        simp (decide := true) only [aOps_nil, putD, Slots.keep, if_true, if_false]
        repeat (with_reducible refine And.intro ?_ ?_; · first | trivial | omega | (intro hg; simp only [Bool.and_eq_true, Bool.or_eq_true, Bool.not_eq_true', Bool.and_eq_false_iff, Bool.or_eq_false_iff, Bool.not_eq_false', decide_eq_true_eq, decide_eq_false_iff_not, eqNil] at hg; omega) | (simp only [List.length_append, List.length_map, List.length_range, List.length_replicate, List.length_take, List.length_drop, List.length_cons, List.length_nil, List.length_set, List.length_reverse]; omega))
        change Awp _ _ _ _ _ _ _
        -- region 21  decimals.go:241
        refine awp_r [9, 78, 79, 80] (by rfl) ?_
        simp (decide := true) only [aOps_nil, ev, absV, absS, putD, Slots.put, Slots.get, Slots.keep, if_true, if_false, true_and, ↓ap_binOp, pop_binOp, isNilC_int, cond_false, pBinX_int, pI_add, ↓ap_move, pop_move]
        try simp (disch := omega) only [wrap_i64]
        repeat (with_reducible refine And.intro ?_ ?_; · first | trivial | omega | (intro hg; simp only [Bool.and_eq_true, Bool.or_eq_true, Bool.not_eq_true', Bool.and_eq_false_iff, Bool.or_eq_false_iff, Bool.not_eq_false', decide_eq_true_eq, decide_eq_false_iff_not, eqNil] at hg; omega) | (simp only [List.length_append, List.length_map, List.length_range, List.length_replicate, List.length_take, List.length_drop, List.length_cons, List.length_nil, List.length_set, List.length_reverse]; omega))
        try simp only [thenA_normal]
        refine ⟨t + 1, rfl, ?_, by omega, by omega⟩
        rw [show UInt8.ofNat (48 + us.getD t 0).toNat = dch (us.getD t 0).toNat by rw [dch]; congr 1; omega, fill_ch us t (by omega)]
        exact Sub.refl _
      · try simp only [decide_eq_false_iff_not] at hb4
        have htl : t = us.length := by omega
        rw [htl, List.take_length, Nat.sub_self, List.replicate_zero, List.append_nil]
        have hcl : (chL us).length = N := by simp [chL, hul]
        refine awp_exit ?_
        change Awp _ _ _ _ _ _ _
        -- region 22  decimals.go:244
        refine awp_rseq [4] (by rfl) fun K hK => ?_
        simp (decide := true) only [aOps_nil, ev, putD, Slots.put, Slots.get, Slots.keep, if_true, if_false, true_and, ↓ap_move, pop_move, ↓ap_convert _ _ _ (es_str Tryz.underlying22 Tryz.underlying9), pop_convert, ↓ap_assign, pop_assign, (IsB.own (w₀ := w₀) (AHeap.set_same (h.set k1 ⟨intCells us, 0⟩) k16 _) hcl.symm (c := .exact N) (Nat.le_refl _)).conv Tryz.underlying22 Tryz.underlying9 Tryz.underlying5]
        try simp (disch := omega) only [Int.tmod_eq_emod_of_nonneg, Int.tdiv_eq_ediv_of_nonneg, wrap_i64, wrap_u8]
        repeat (with_reducible refine And.intro ?_ ?_; · first | trivial | omega | (intro hg; simp only [Bool.and_eq_true, Bool.or_eq_true, Bool.not_eq_true', Bool.and_eq_false_iff, Bool.or_eq_false_iff, Bool.not_eq_false', decide_eq_true_eq, decide_eq_false_iff_not, eqNil] at hg; omega) | (simp only [List.length_append, List.length_map, List.length_range, List.length_replicate, List.length_take, List.length_drop, List.length_cons, List.length_nil, List.length_set, List.length_reverse]; omega))
        apply hK; clear hK K
        refine awp_ret ?_
        try simp only [thenA_ret, inBlockA_ret]
        refine retA_ret h (by repeat (first | exact Sub.refl _ | assumption | refine Sub.trans_set ?_ (by assumption))) (resPre_tmp (resPre_nil)) ?_
        simp (decide := true) only [Slots.get, if_true, and_true, resOf_one]
        obtain ⟨e1, e2⟩ := natOf_chL us hd9
        rw [huv] at e1
        rw [fixS_of e2 (show natOf (chL us) = natOf x * natOf y by omega) hcl]
end Go.Proofs.YthiiakghjoeikaaGreatDoor

/-
  Contracts of strings.Builder's writing methods.
  Conditions: none.
-/
namespace Go.Proofs.YthiiakghjoeikaaGreatDoor
open Go.AM
open Go.Proofs
set_option maxRecDepth 100000

theorem u8_typ : (5 : Nat) < 4096 := by decide
theorem c_WriteByte (w₀ : World) (h : AHeap) (k : Nat) (rest : List AVal) (st : Bld) (T : TypeId) (hT : BldT T (rest.length + 2)) (ht : tyOf k = some T) (hk : h k = none) (hst : st.ok 5 h k) (c : UInt8) (hl : st.bytes.length + 1 ≤ 140737488355328) :
    ACall Tryz.prog w₀ 76 [.ptr (.own k) 0, .int .u8 c.toNat] (bldH h k rest st) (fun v h' => v = .nilIface ∧ ∃ st' : Bld, st'.ok 5 h k ∧ st'.bytes = st.bytes ++ [c] ∧ h' = bldH h k rest st') := by
  have hst2 : (⟨true, st.buf⟩ : Bld).ok 5 h k := hst
  have hhead := bldH_head (rest := rest) hst2
  refine acall_intro (n := 17) (rs := [.tmp 4]) Tryz.func76 rfl rfl rfl rfl (Nat.le_of_ble_eq_true rfl) ?_
  simp only [initSlots]
  -- region 0  builder.go:95
  refine awp_rseq [0, 1] (by rfl) fun K hK => ?_
  simp (decide := true) only [aOps_nil, ev, absV, absS, putD, Slots.put, Slots.keep, if_true, if_false, true_and, ↓ap_assign, pop_assign]
  repeat (with_reducible refine And.intro ?_ ?_; · first | trivial | omega | (intro hg; simp only [Bool.and_eq_true, Bool.or_eq_true, Bool.not_eq_true', Bool.and_eq_false_iff, Bool.or_eq_false_iff, Bool.not_eq_false', decide_eq_true_eq, decide_eq_false_iff_not, eqNil] at hg; omega) )
  apply hK; clear hK K
  -- region 1  builder.go:96
  refine awp_rseq [0, 1] (by rfl) fun K hK => ?_
  simp (decide := true) only [ev, putD, Slots.put, Slots.get, if_true, if_false, true_and, ↓ap_move, pop_move]
  repeat (with_reducible refine And.intro ?_ ?_; · first | trivial | omega | (intro hg; simp only [Bool.and_eq_true, Bool.or_eq_true, Bool.not_eq_true', Bool.and_eq_false_iff, Bool.or_eq_false_iff, Bool.not_eq_false', decide_eq_true_eq, decide_eq_false_iff_not, eqNil] at hg; omega) )
  refine aOps_call (by rfl) (by rfl) (c_copyCheck w₀ h k rest st T hT ht hst) fun x1q1 h1q1 hx1q1 => ?_
  obtain ⟨rfl, rfl⟩ := hx1q1
  simp (decide := true) only [aOps_nil, putD, Slots.put, Slots.keep, if_true, if_false]
  repeat (with_reducible refine And.intro ?_ ?_; · first | trivial | omega | (intro hg; simp only [Bool.and_eq_true, Bool.or_eq_true, Bool.not_eq_true', Bool.and_eq_false_iff, Bool.or_eq_false_iff, Bool.not_eq_false', decide_eq_true_eq, decide_eq_false_iff_not, eqNil] at hg; omega) )
  apply hK; clear hK K
  -- region 2  builder.go:97
  refine awp_rseq [] (by rfl) fun K hK => ?_
  simp (decide := true) only [ev, putD, Slots.put, Slots.get, if_true, if_false, true_and, ↓ap_move, pop_move, ↓ap_nilCheck, pop_nilCheck, pNil_ptr, ↓ap_fieldAddr, pop_fieldAddr, fa95_1, ↓ap_loadL, apL_mk, pLoad_one ag22, Bld.slice_live, List.getD_cons_zero, List.getD_cons_succ, rd_own w₀ hhead]
  repeat (with_reducible refine And.intro ?_ ?_; · first | trivial | omega | (intro hg; simp only [Bool.and_eq_true, Bool.or_eq_true, Bool.not_eq_true', Bool.and_eq_false_iff, Bool.or_eq_false_iff, Bool.not_eq_false', decide_eq_true_eq, decide_eq_false_iff_not, eqNil] at hg; omega) )
  refine aOps_buildSlice (cs := byteCells [c]) (by rfl) fun k6 hk6 => ?_
  refine aOps_appendBld (src := [c]) (h₀ := h) (k := k) (cs := rest) (st := ⟨true, st.buf⟩) (by rfl) (by rfl) Tryz.underlying22 Tryz.underlying22 (by intro k e; cases e) sz5 by5 ze5 u8_typ (by rfl) hk hst2 (Sub.set hk6) (by rfl) (SrcB.of (IsB.own (AHeap.set_same _ _ _) rfl (Nat.le_refl _))) (by simpa [Bld.bytes] using hl) fun st' hu' hst' hb' h' hk' hsub => ?_
  simp (decide := true) only [ev, putD, Slots.put, Slots.get, if_true, if_false, true_and, ↓ap_nilCheck, pop_nilCheck, pNil_ptr, ↓ap_fieldAddr, pop_fieldAddr, fa95_1]
  repeat (with_reducible refine And.intro ?_ ?_; · first | trivial | omega | (intro hg; simp only [Bool.and_eq_true, Bool.or_eq_true, Bool.not_eq_true', Bool.and_eq_false_iff, Bool.or_eq_false_iff, Bool.not_eq_false', decide_eq_true_eq, decide_eq_false_iff_not, eqNil] at hg; omega) )
  refine aOps_store (by rfl) (by rfl) hk' sz22 (Bld.slice_live _) (by rw [Bld.slice_cells]; rfl) (by simp) (Nat.zero_le _) (by rw [Bld.slice_cells]; simp [allScal, Bld.slice_scal]) ?_
  rw [Bld.slice_cells]
  simp only [setAt, List.set_cons_succ, List.set_cons_zero]
  have hhd : st'.head k = (⟨true, st.buf⟩ : Bld).head k := by unfold Bld.head; rw [hu']
  rw [hhd] at hsub
  simp (decide := true) only [aOps_nil, putD, Slots.keep, if_false]
  repeat (with_reducible refine And.intro ?_ ?_; · first | trivial | omega | (intro hg; simp only [Bool.and_eq_true, Bool.or_eq_true, Bool.not_eq_true', Bool.and_eq_false_iff, Bool.or_eq_false_iff, Bool.not_eq_false', decide_eq_true_eq, decide_eq_false_iff_not, eqNil] at hg; omega) )
  apply hK; clear hK K
  -- region 3  builder.go:98
  refine awp_rseq [4] (by rfl) fun K hK => ?_
  simp (decide := true) only [aOps_nil, ev, absV, absS, putD, Slots.put, Slots.keep, if_true, true_and, ↓ap_assign, pop_assign]
  repeat (with_reducible refine And.intro ?_ ?_; · first | trivial | omega | (intro hg; simp only [Bool.and_eq_true, Bool.or_eq_true, Bool.not_eq_true', Bool.and_eq_false_iff, Bool.or_eq_false_iff, Bool.not_eq_false', decide_eq_true_eq, decide_eq_false_iff_not, eqNil] at hg; omega) )
  apply hK; clear hK K
  refine awp_ret ?_
  try simp only [thenA_ret, inBlockA_ret]
  refine retA_ret (bldH h k rest st') hsub (resPre_tmp (resPre_nil)) ?_
  simp (decide := true) only [Slots.get, if_true, true_and, resOf_one]
  exact ⟨st', hst', hb', rfl⟩
end Go.Proofs.YthiiakghjoeikaaGreatDoor

/-
  Contracts: divided, Mul, Div of the package decimals.
  Conditions: none.
-/
namespace Go.Proofs.YthiiakghjoeikaaGreatDoor
open Go.AM
open Go.Proofs
open Go.Dec
open Go.Lib (decDigits)
set_option maxRecDepth 100000

/-- The quotient grows by a digit. -/
theorem quo_step {X d Y R n : Nat} (hY : 0 < Y) (hR : R < Y) (h : 10 * (X % Y) + d = n * Y + R) : (10 * X + d) / Y = 10 * (X / Y) + n ∧ (10 * X + d) % Y = R := by
  have h1 := Nat.div_add_mod X Y
  have h2 : 10 * X + d = (10 * (X / Y) + n) * Y + R := by
    rw [Nat.add_mul, Nat.mul_assoc, Nat.mul_comm (X / Y) Y]
    omega
  rw [h2]
  constructor
  · rw [Nat.mul_comm, Nat.mul_add_div hY, Nat.div_eq_of_lt hR, Nat.add_zero]
  · rw [Nat.mul_comm, Nat.mul_add_mod, Nat.mod_eq_of_lt hR]
theorem fixS_snoc (n d : Nat) (hd : d < 10) (i : Nat) (hn : n < 10 ^ i) : fixS n i ++ [dch d] = fixS (10 * n + d) (i + 1) := by
  refine fixS_of ?_ ?_ ?_
  · rw [List.all_append, fixS_all, List.all_cons, dch_dg hd]; rfl
  · rw [natOf_snoc, natOf_fixS i n hn, dv_dch hd]
  · rw [List.length_append, fixS_length]; rfl
/-- Numbers without zeros in front: the longer one, or the later one of the same length, is the greater one. -/
theorem trN_ge (a b : Nat) : ((trN b).length < (trN a).length ∨ (trN a).length = (trN b).length ∧ natOf (trN b) ≤ natOf (trN a)) ↔ b ≤ a ∧ (b < a ∨ a = b) := by
  rw [trN_val, trN_val]
  constructor
  · rintro (h | ⟨h, h2⟩)
    · have h1 : ¬ (trN a).length ≤ (trN b).length := by omega
      rw [trN_len] at h1
      have h2 : b < 10 ^ (trN b).length := trN_len.1 (Nat.le_refl _)
      omega
    · omega
  · rintro ⟨h, _⟩
    by_cases e : (trN a).length = (trN b).length
    · exact .inr ⟨e, h⟩
    · have h1 : (trN b).length ≤ (trN a).length := trN_len.2 (Nat.lt_of_le_of_lt h (trN_len.1 (Nat.le_refl _)))
      exact .inl (by omega)

set_option maxHeartbeats 1000000 in
theorem c_divided (w₀ : World) (h : AHeap) (x y : List UInt8) (hx : x.all dg = true) (hy : y.all dg = true) (hY : natOf y ≠ 0) (lx : x.length ≤ 1000000) (ly : y.length ≤ 1000000) :
    ACall Tryz.prog w₀ 54 [.str x, .str y] h (fun v h' => v = .str (fixS (natOf x / natOf y) x.length) ∧ h' = h) := by
  obtain ⟨Y, hYd⟩ : ∃ Y, Y = natOf y := ⟨_, rfl⟩
  have hYp : 0 < Y := by omega
  have hYl : Y < 10 ^ y.length := by rw [hYd]; exact natOf_lt y hy
  have hYt : (trN Y).length ≤ 1000000 := Nat.le_trans (trN_len.2 hYl) ly
  rw [← hYd]
  refine acall_intro (n := 56) (rs := [.tmp 4]) Tryz.func54 rfl rfl rfl rfl (Nat.le_of_ble_eq_true rfl) ?_
  simp only [initSlots]
  -- region 0  decimals.go:256
  refine awp_rseq [0, 1] (by rfl) fun K hK => ?_
  simp (decide := true) only [aOps_nil, ev, absV, absS, putD, Slots.put, Slots.keep, if_true, if_false, true_and, ↓ap_assign, pop_assign, Nat.zero_add]
  repeat (with_reducible refine And.intro ?_ ?_; · first | trivial | omega | (intro hg; simp only [Bool.and_eq_true, Bool.or_eq_true, Bool.not_eq_true', Bool.and_eq_false_iff, Bool.or_eq_false_iff, Bool.not_eq_false', decide_eq_true_eq, decide_eq_false_iff_not, eqNil] at hg; omega) | (simp only [List.length_append, List.length_map, List.length_range, List.length_replicate, List.length_take, List.length_drop, List.length_cons, List.length_nil, List.length_set, List.length_reverse]; omega))
  apply hK; clear hK K
  -- region 1  decimals.go:257
  refine awp_aseqT [0, 1, 5] (by decide) (by decide) ze95 (cs := [.nilPtr, .nilSlice]) (by rfl) fun k1q0 hk1q0 ht1q0 => ?_
  simp (decide := true) only [Slots.put, Slots.keep, if_true, if_false]
  try have hf_1q0 : h k1q0 = none := by first | assumption | (simp only [AHeap.set_none] at hk1q0; simp only [hk1q0])
  -- region 2  decimals.go:258
  refine awp_rseq [0, 1, 5] (by rfl) fun K hK => ?_
  simp (decide := true) only [ev, putD, Slots.put, Slots.get, if_true, if_false, true_and, ↓ap_move, pop_move]
  repeat (with_reducible refine And.intro ?_ ?_; · first | trivial | omega | (intro hg; simp only [Bool.and_eq_true, Bool.or_eq_true, Bool.not_eq_true', Bool.and_eq_false_iff, Bool.or_eq_false_iff, Bool.not_eq_false', decide_eq_true_eq, decide_eq_false_iff_not, eqNil] at hg; omega) | (simp only [List.length_append, List.length_map, List.length_range, List.length_replicate, List.length_take, List.length_drop, List.length_cons, List.length_nil, List.length_set, List.length_reverse]; omega))
  refine aOps_callV (V := .str (trN Y)) (by rfl) (by rfl) ((c_trimLeft0 w₀ _ y 48 (by decide)).val (by rw [trN_of hy, hYd])) ?_
  simp (decide := true) only [aOps_nil, ev, putD, Slots.put, Slots.get, Slots.keep, if_true, if_false, true_and, ↓ap_assign, pop_assign]
  repeat (with_reducible refine And.intro ?_ ?_; · first | trivial | omega | (intro hg; simp only [Bool.and_eq_true, Bool.or_eq_true, Bool.not_eq_true', Bool.and_eq_false_iff, Bool.or_eq_false_iff, Bool.not_eq_false', decide_eq_true_eq, decide_eq_false_iff_not, eqNil] at hg; omega) | (simp only [List.length_append, List.length_map, List.length_range, List.length_replicate, List.length_take, List.length_drop, List.length_cons, List.length_nil, List.length_set, List.length_reverse]; omega))
  apply hK; clear hK K
  -- region 3  decimals.go:259
  refine awp_rseq [0, 1, 5, 6] (by rfl) fun K hK => ?_
  simp (decide := true) only [aOps_nil, ev, absV, absS, putD, Slots.put, Slots.keep, if_true, if_false, true_and, ↓ap_assign, pop_assign]
  repeat (with_reducible refine And.intro ?_ ?_; · first | trivial | omega | (intro hg; simp only [Bool.and_eq_true, Bool.or_eq_true, Bool.not_eq_true', Bool.and_eq_false_iff, Bool.or_eq_false_iff, Bool.not_eq_false', decide_eq_true_eq, decide_eq_false_iff_not, eqNil] at hg; omega) | (simp only [List.length_append, List.length_map, List.length_range, List.length_replicate, List.length_take, List.length_drop, List.length_cons, List.length_nil, List.length_set, List.length_reverse]; omega))
  apply hK; clear hK K
  refine awp_seq ?_
  -- region 4  decimals.go:260
  refine awp_rseq [0, 1, 5, 6, 12, 13] (by rfl) fun K hK => ?_
  simp (decide := true) only [aOps_nil, ev, absV, absS, putD, Slots.put, Slots.get, Slots.keep, if_true, if_false, true_and, ↓ap_move, pop_move, ↓ap_len, pop_len, pLen_str Tryz.underlying9]
  repeat (with_reducible refine And.intro ?_ ?_; · first | trivial | omega | (intro hg; simp only [Bool.and_eq_true, Bool.or_eq_true, Bool.not_eq_true', Bool.and_eq_false_iff, Bool.or_eq_false_iff, Bool.not_eq_false', decide_eq_true_eq, decide_eq_false_iff_not, eqNil] at hg; omega) | (simp only [List.length_append, List.length_map, List.length_range, List.length_replicate, List.length_take, List.length_drop, List.length_cons, List.length_nil, List.length_set, List.length_reverse]; omega))
  apply hK; clear hK K
  refine awp_block ?_
  refine awp_loopG [0, 1, 5, 6, 12, 13] (fun g : Nat × Bld => [(0, .str x), (1, .str (trN Y)), (5, .ptr (.own k1q0) 0), (6, .str (trN (natOf (x.take g.1) % Y))), (12, .int .i64 x.length), (13, .int .i64 g.1)]) (fun g : Nat × Bld => bldH h k1q0 [] g.2) (fun g : Nat × Bld => g.1 ≤ x.length ∧ g.2.ok 5 h k1q0 ∧ g.2.bytes = fixS (natOf (x.take g.1) / Y) g.1) (fun g : Nat × Bld => x.length - g.1) (0, Bld.none) (by rw [List.take_zero, natOf_nil, Nat.zero_mod]; rfl) (Sub.refl _) ⟨Nat.zero_le _, Bld.none_ok, rfl⟩ ?_
  rintro ⟨i, st⟩ ⟨hi, hst, hbt⟩
  simp only at hi hst hbt
  -- region 5  decimals.go:260
  refine awp_rseq [0, 1, 5, 6, 12, 13, 14] (by rfl) fun K hK => ?_
  simp (decide := true) only [aOps_nil, ev, putD, Slots.put, Slots.get, Slots.keep, if_true, if_false, true_and, ↓ap_binOp, pop_binOp, isNilC_tmp, cond_false, pBinX_int, pI_lss]
  repeat (with_reducible refine And.intro ?_ ?_; · first | trivial | omega | (intro hg; simp only [Bool.and_eq_true, Bool.or_eq_true, Bool.not_eq_true', Bool.and_eq_false_iff, Bool.or_eq_false_iff, Bool.not_eq_false', decide_eq_true_eq, decide_eq_false_iff_not, eqNil] at hg; omega) | (simp only [List.length_append, List.length_map, List.length_range, List.length_replicate, List.length_take, List.length_drop, List.length_cons, List.length_nil, List.length_set, List.length_reverse]; omega))
  apply hK; clear hK K
  refine awp_seq (awp_cond (b := _) rfl (fun hb1 => ?_) (fun hb1 => ?_))
  · try simp only [decide_eq_true_eq] at hb1
    have hxi := dg_at hx i (by omega)
    obtain ⟨d, hd⟩ : ∃ d, d = dv (x.getD i 0) := ⟨_, rfl⟩
    have hd9 : d ≤ 9 := by rw [hd]; simp only [dv]; omega
    obtain ⟨X, hX⟩ : ∃ X, X = natOf (x.take i) := ⟨_, rfl⟩
    have hXm : X % Y < Y := Nat.mod_lt _ hYp
    have hXl : (trN (X % Y)).length ≤ 1000000 := Nat.le_trans (trN_len.2 (Nat.lt_trans hXm hYl)) ly
    have hsl : List.take (((i : Int) + 1).toNat - i) (List.drop i x) = [x.getD i 0] := by
      rw [drop_cons x i (by omega), show ((i : Int) + 1).toNat - i = 1 by omega]; rfl
    rw [← hX] at hbt ⊢
    refine awp_skip ?_
    change Awp _ _ _ _ _ _ _
    refine awp_seq ?_
    refine awp_block ?_
    -- region 6  decimals.go:260
    refine awp_rseq [0, 1, 5, 6, 7, 12, 13] (by rfl) fun K hK => ?_
    simp (decide := true) only [aOps_nil, ev, putD, Slots.put, Slots.get, Slots.keep, if_true, if_false, true_and, ↓ap_move, pop_move, ↓ap_assign, pop_assign]
    repeat (with_reducible refine And.intro ?_ ?_; · first | trivial | omega | (intro hg; simp only [Bool.and_eq_true, Bool.or_eq_true, Bool.not_eq_true', Bool.and_eq_false_iff, Bool.or_eq_false_iff, Bool.not_eq_false', decide_eq_true_eq, decide_eq_false_iff_not, eqNil] at hg; omega) | (simp only [List.length_append, List.length_map, List.length_range, List.length_replicate, List.length_take, List.length_drop, List.length_cons, List.length_nil, List.length_set, List.length_reverse]; omega))
    apply hK; clear hK K
    -- region 7  decimals.go:261
    refine awp_rseq [0, 1, 5, 6, 12, 13] (by rfl) fun K hK => ?_
    simp (decide := true) only [ev, absV, absS, putD, Slots.put, Slots.get, if_true, if_false, true_and, ↓ap_move, pop_move, ↓ap_binOp, pop_binOp, isNilC_int, cond_false, pBinX_int, pI_add]
    try simp (disch := omega) only [wrap_i64]
    try simp (decide := true) only [ev, putD, Slots.put, Slots.get, if_true, if_false, ↓ap_slice, pop_slice, evO, pSliceS_ii Tryz.underlying9, pSliceS, bndA_int, ↓ap_binOp, pop_binOp, isNilC_tmp, cond_false, pBinX_str, pS_add, Int.toNat_natCast, hsl]
    repeat (with_reducible refine And.intro ?_ ?_; · first | trivial | omega | (intro hg; simp only [Bool.and_eq_true, Bool.or_eq_true, Bool.not_eq_true', Bool.and_eq_false_iff, Bool.or_eq_false_iff, Bool.not_eq_false', decide_eq_true_eq, decide_eq_false_iff_not, eqNil] at hg; omega) | (simp only [List.length_cons, List.length_nil]; omega))
    refine aOps_callV (V := .str (trN (10 * (X % Y) + d))) (by rfl) (by rfl) ((c_trimLeft0 w₀ _ (trN (X % Y) ++ [x.getD i 0]) 48 (by decide)).val (by rw [trN_of (by rw [List.all_append, trN_all, List.all_cons, (dg_iff _).2 hxi]; rfl), natOf_snoc, trN_val, hd])) ?_
    simp (decide := true) only [aOps_nil, ev, putD, Slots.put, Slots.get, Slots.keep, if_true, if_false, true_and, ↓ap_assign, pop_assign]
    repeat (with_reducible refine And.intro ?_ ?_; · first | trivial | omega | (intro hg; simp only [Bool.and_eq_true, Bool.or_eq_true, Bool.not_eq_true', Bool.and_eq_false_iff, Bool.or_eq_false_iff, Bool.not_eq_false', decide_eq_true_eq, decide_eq_false_iff_not, eqNil] at hg; omega) | (simp only [List.length_append, List.length_map, List.length_range, List.length_replicate, List.length_take, List.length_drop, List.length_cons, List.length_nil, List.length_set, List.length_reverse]; omega))
    apply hK; clear hK K
    -- region 8  decimals.go:262
    refine awp_rseq [0, 1, 5, 6, 8, 12, 13] (by rfl) fun K hK => ?_
    simp (decide := true) only [aOps_nil, ev, absV, absS, putD, Slots.put, Slots.keep, if_true, if_false, true_and, ↓ap_assign, pop_assign]
    repeat (with_reducible refine And.intro ?_ ?_; · first | trivial | omega | (intro hg; simp only [Bool.and_eq_true, Bool.or_eq_true, Bool.not_eq_true', Bool.and_eq_false_iff, Bool.or_eq_false_iff, Bool.not_eq_false', decide_eq_true_eq, decide_eq_false_iff_not, eqNil] at hg; omega) | (simp only [List.length_append, List.length_map, List.length_range, List.length_replicate, List.length_take, List.length_drop, List.length_cons, List.length_nil, List.length_set, List.length_reverse]; omega))
    apply hK; clear hK K
    refine awp_seq ?_
    refine awp_block ?_
    refine awp_loopG [0, 1, 5, 6, 8, 12, 13] (fun g : Nat × Nat => [(0, .str x), (1, .str (trN Y)), (5, .ptr (.own k1q0) 0), (6, .str (trN g.2)), (8, .int .i64 g.1), (12, .int .i64 x.length), (13, .int .i64 i)]) (fun g : Nat × Nat => bldH h k1q0 [] st) (fun g : Nat × Nat => 10 * (X % Y) + d = g.1 * Y + g.2) (fun g : Nat × Nat => g.2) (0, 10 * (X % Y) + d) rfl (Sub.refl _) (by simp) ?_
    rintro ⟨n, R⟩ hnR
    simp only at hnR
    have hRl : R < 10 ^ (y.length + 1) := by rw [Nat.pow_succ]; omega
    have hRt : (trN R).length ≤ 1000001 := Nat.le_trans (trN_len.2 hRl) (by omega)
    have hn9 : n ≤ 9 := by
      refine Nat.le_of_not_lt fun hgt => ?_
      have := Nat.mul_le_mul_right Y (show 10 ≤ n by omega)
      omega
    refine awp_seq ?_
    -- region 9  decimals.go:263
    refine awp_rseq [0, 1, 5, 6, 8, 12, 13, 40] (by rfl) fun K hK => ?_
    simp (decide := true) only [aOps_nil, ev, absV, absS, putD, Slots.put, Slots.get, Slots.keep, if_true, if_false, true_and, ↓ap_move, pop_move, ↓ap_len, pop_len, pLen_str Tryz.underlying9, ↓ap_binOp, pop_binOp, isNilC_tmp, cond_false, pBinX_int, pI_gtr, ↓ag_move, agP, agQ_some, nthDst, gKnown_bool, gKnown_cond, guardB_cond, guardB_bool_true, guardB_bool_false, cv_cv, implies_true, ↓ag_len, cv_len, cp_len, ↓ag_binOp, cv_binl, cv_binr, cp_binl, cp_binr, pI_eql, pBinX_str, pS_geq, ↓ag_pick, pop_pick, pPick_bool, pickV_cond_r, cp_nest1, pickV_and, pickV_or, cv_pick, cp_pick, ↓ap_pick]
    repeat (with_reducible refine And.intro ?_ ?_; · first | trivial | omega | (intro hg; simp only [Bool.and_eq_true, Bool.or_eq_true, Bool.not_eq_true', Bool.and_eq_false_iff, Bool.or_eq_false_iff, Bool.not_eq_false', decide_eq_true_eq, decide_eq_false_iff_not, eqNil] at hg; omega) | (simp only [List.length_append, List.length_map, List.length_range, List.length_replicate, List.length_take, List.length_drop, List.length_cons, List.length_nil, List.length_set, List.length_reverse]; omega))
    apply hK; clear hK K
    refine awp_cond (b := _) rfl (fun hb2 => ?_) (fun hb2 => ?_)
    · try simp only [decide_eq_true_eq, Bool.not_eq_true', Bool.and_eq_true, Bool.or_eq_true] at hb2
      have hge : Y ≤ R := by
        have h2 : (trN Y).length < (trN R).length ∨ (trN R).length = (trN Y).length ∧ natOf (trN Y) ≤ natOf (trN R) := by
          rcases hb2 with c | ⟨c1, c2⟩
          · exact .inl (by omega)
          · refine .inr ⟨by omega, ?_⟩
            rw [less_natOf _ _ (by omega) (trN_all _) (trN_all _)] at c2
            simpa using c2
        exact ((trN_ge R Y).1 h2).1
      have hYR : (trN Y).length ≤ (trN R).length := trN_len.2 (Nat.lt_of_le_of_lt hge (trN_len.1 (Nat.le_refl _)))
      have hpl := pad_length (s := trN Y) (n := (trN R).length) (by omega)
      refine awp_skip ?_
      change Awp _ _ _ _ _ _ _
      refine awp_block ?_
      -- region 10  decimals.go:264
      refine awp_rseq [0, 1, 5, 6, 8, 12, 13] (by rfl) fun K hK => ?_
      simp (decide := true) only [ev, putD, Slots.put, Slots.get, if_true, if_false, true_and, ↓ap_move, pop_move, ↓ap_len, pop_len, pLen_str Tryz.underlying9]
      repeat (with_reducible refine And.intro ?_ ?_; · first | trivial | omega | (intro hg; simp only [Bool.and_eq_true, Bool.or_eq_true, Bool.not_eq_true', Bool.and_eq_false_iff, Bool.or_eq_false_iff, Bool.not_eq_false', decide_eq_true_eq, decide_eq_false_iff_not, eqNil] at hg; omega) | (simp only [List.length_append, List.length_map, List.length_range, List.length_replicate, List.length_take, List.length_drop, List.length_cons, List.length_nil, List.length_set, List.length_reverse]; omega))
      refine aOps_callV (V := .str (padL (trN Y) (trN R).length)) (by rfl) (by rfl) (c_padded w₀ _ (trN Y) _ (by omega) (by omega) (by omega)) ?_
      refine aOps_callV (V := .str (fixS (R - Y) (trN R).length)) (by rfl) (by rfl) ((c_minus w₀ _ (trN R) (padL (trN Y) (trN R).length) (trN_all _) (pad_all (trN_all _) _) (by rw [hpl]; rfl) (by omega) (by rw [natOf_pad, trN_val, trN_val]; exact hge)).val (by rw [natOf_pad, trN_val, trN_val])) ?_
      refine aOps_callV (V := .str (trN (R - Y))) (by rfl) (by rfl) ((c_trimLeft0 w₀ _ _ 48 (by decide)).val (by rw [trN_of (fixS_all _ _), natOf_fixS _ _ (Nat.lt_of_le_of_lt (Nat.sub_le _ _) (trN_len.1 (Nat.le_refl _)))])) ?_
      simp (decide := true) only [aOps_nil, ev, putD, Slots.put, Slots.get, Slots.keep, if_true, if_false, true_and, ↓ap_assign, pop_assign]
      repeat (with_reducible refine And.intro ?_ ?_; · first | trivial | omega | (intro hg; simp only [Bool.and_eq_true, Bool.or_eq_true, Bool.not_eq_true', Bool.and_eq_false_iff, Bool.or_eq_false_iff, Bool.not_eq_false', decide_eq_true_eq, decide_eq_false_iff_not, eqNil] at hg; omega) | (simp only [List.length_append, List.length_map, List.length_range, List.length_replicate, List.length_take, List.length_drop, List.length_cons, List.length_nil, List.length_set, List.length_reverse]; omega))
      apply hK; clear hK K
      -- region 11  decimals.go:265
      refine awp_r [0, 1, 5, 6, 8, 12, 13] (by rfl) ?_
      simp (decide := true) only [aOps_nil, ev, absV, absS, putD, Slots.put, Slots.get, Slots.keep, if_true, if_false, true_and, ↓ap_move, pop_move, ↓ap_binOp, pop_binOp, isNilC_int, cond_false, pBinX_int, pI_add, ↓ap_assign, pop_assign]
      try simp (disch := omega) only [wrap_i64]
      repeat (with_reducible refine And.intro ?_ ?_; · first | trivial | omega | (intro hg; simp only [Bool.and_eq_true, Bool.or_eq_true, Bool.not_eq_true', Bool.and_eq_false_iff, Bool.or_eq_false_iff, Bool.not_eq_false', decide_eq_true_eq, decide_eq_false_iff_not, eqNil] at hg; omega) | (simp only [List.length_append, List.length_map, List.length_range, List.length_replicate, List.length_take, List.length_drop, List.length_cons, List.length_nil, List.length_set, List.length_reverse]; omega))
      try simp only [thenA_normal, inBlockA_normal]
      refine ⟨(n + 1, R - Y), rfl, Sub.refl _, by simp only; rw [Nat.add_mul]; omega, by simp only; omega⟩
    · try simp only [decide_eq_false_iff_not, Bool.not_eq_false', Bool.and_eq_false_iff, Bool.or_eq_false_iff] at hb2
      have hlt : R < Y := by
        refine Nat.lt_of_not_le fun hge => ?_
        rcases (trN_ge R Y).2 ⟨hge, by omega⟩ with c | ⟨c1, c2⟩
        · exact hb2.1 (by omega)
        · rcases hb2.2 with c | c
          · exact c (by omega)
          · rw [less_natOf _ _ (by omega) (trN_all _) (trN_all _)] at c
            simp only [decide_eq_true_eq] at c
            omega
      obtain ⟨qs1, qs2⟩ := quo_step (X := X) (d := d) hYp hlt hnR
      have hXs : natOf (x.take (i + 1)) = 10 * X + d := by rw [natOf_take_succ x i (by omega), ← hX, ← hd]
      have hXq : X / Y < 10 ^ i := Nat.lt_of_le_of_lt (Nat.div_le_self _ _) (by
        have h1 := natOf_lt (x.take i) (by rw [List.all_eq_true] at hx ⊢; exact fun b hb => hx b (List.mem_of_mem_take hb))
        rw [← hX] at h1
        exact Nat.lt_of_lt_of_le h1 (Nat.pow_le_pow_right (by omega) (by rw [List.length_take]; omega)))
      refine awp_exit ?_
      change Awp _ _ _ _ _ _ _
      -- region 12  decimals.go:267
      refine awp_r [0, 1, 5, 6, 12, 13] (by rfl) ?_
      simp (decide := true) only [ev, absV, absS, putD, Slots.put, Slots.get, if_true, if_false, true_and, ↓ap_move, pop_move, ↓ap_binOp, pop_binOp, isNilC_tmp, cond_false, pBinX_int, pI_add, ↓ap_convert _ _ _ (es_int Tryz.underlying3 Tryz.underlying5), pop_convert, pConv_int Tryz.underlying3 Tryz.underlying5]
      try simp (disch := omega) only [wrap_i64, wrap_u8]
      rw [show (48 + (n : Int)) = ((dch n).toNat : Int) by rw [dch_toNat (by omega)]; omega]
      refine aOps_call (by rfl) (by rfl) (c_WriteByte w₀ h k1q0 [] st _ bldT_self ht1q0 hk1q0 hst (dch n) (by rw [hbt, fixS_length]; omega)) fun x12q3 h12q3 hx12q3 => ?_
      obtain ⟨rfl, st', hst', hb', rfl⟩ := hx12q3
      simp (decide := true) only [aOps_nil, putD, Slots.put, Slots.keep, if_true, if_false]
      repeat (with_reducible refine And.intro ?_ ?_; · first | trivial | omega | (intro hg; simp only [Bool.and_eq_true, Bool.or_eq_true, Bool.not_eq_true', Bool.and_eq_false_iff, Bool.or_eq_false_iff, Bool.not_eq_false', decide_eq_true_eq, decide_eq_false_iff_not, eqNil] at hg; omega) | (simp only [List.length_append, List.length_map, List.length_range, List.length_replicate, List.length_take, List.length_drop, List.length_cons, List.length_nil, List.length_set, List.length_reverse]; omega))
      change Awp _ _ _ _ _ _ _
      -- region 13  decimals.go:260
      refine awp_r [0, 1, 5, 6, 12, 13] (by rfl) ?_
      simp (decide := true) only [aOps_nil, ev, absV, absS, putD, Slots.put, Slots.get, Slots.keep, if_true, if_false, true_and, ↓ap_binOp, pop_binOp, isNilC_int, cond_false, pBinX_int, pI_add, ↓ap_move, pop_move]
      try simp (disch := omega) only [wrap_i64]
      repeat (with_reducible refine And.intro ?_ ?_; · first | trivial | omega | (intro hg; simp only [Bool.and_eq_true, Bool.or_eq_true, Bool.not_eq_true', Bool.and_eq_false_iff, Bool.or_eq_false_iff, Bool.not_eq_false', decide_eq_true_eq, decide_eq_false_iff_not, eqNil] at hg; omega) | (simp only [List.length_append, List.length_map, List.length_range, List.length_replicate, List.length_take, List.length_drop, List.length_cons, List.length_nil, List.length_set, List.length_reverse]; omega))
      try simp only [thenA_normal]
      refine ⟨(i + 1, st'), ?_, Sub.refl _, ⟨by simp only; omega, hst', ?_⟩, by simp only; omega⟩
      · simp only
        rw [hXs, qs2]
        rfl
      · simp only
        rw [hb', hbt, fixS_snoc _ _ (by omega) _ hXq, hXs, qs1]
  · try simp only [decide_eq_false_iff_not] at hb1
    have hil : i = x.length := by omega
    refine awp_exit ?_
    change Awp _ _ _ _ _ _ _
    -- region 14  decimals.go:269
    refine awp_rseq [4] (by rfl) fun K hK => ?_
    refine aOps_call (by rfl) (by rfl) (c_bString w₀ h k1q0 [] st _ hk1q0 ht1q0 hst (by rw [hbt, fixS_length]; omega)) fun x14q0 h14q0 hx14q0 => ?_
    obtain ⟨e1, e2⟩ := hx14q0
    subst e1
    rw [e2]
    simp (decide := true) only [aOps_nil, ev, putD, Slots.put, Slots.get, Slots.keep, if_true, if_false, true_and, ↓ap_assign, pop_assign]
    repeat (with_reducible refine And.intro ?_ ?_; · first | trivial | omega | (intro hg; simp only [Bool.and_eq_true, Bool.or_eq_true, Bool.not_eq_true', Bool.and_eq_false_iff, Bool.or_eq_false_iff, Bool.not_eq_false', decide_eq_true_eq, decide_eq_false_iff_not, eqNil] at hg; omega) | (simp only [List.length_append, List.length_map, List.length_range, List.length_replicate, List.length_take, List.length_drop, List.length_cons, List.length_nil, List.length_set, List.length_reverse]; omega))
    apply hK; clear hK K
    refine awp_ret ?_
    try simp only [thenA_ret, inBlockA_ret]
    refine retA_ret h (Sub.refl _) (resPre_tmp (resPre_nil)) ?_
    simp (decide := true) only [Slots.get, if_true, and_true, resOf_one]
    rw [hbt, hil, List.take_length, hYd]

def mulE (a b : D) : D × Int := if checkE a = 0 ∧ checkE b = 0 then normE (a.neg != b.neg) (natOf a.dig * natOf b.dig) (a.scale + b.scale) else (noD, 1)
theorem both_bad {a b : D} (h : ¬max (checkE a) (checkE b) = 0) : max (checkE a) (checkE b) = 1 ∧ ¬(checkE a = 0 ∧ checkE b = 0) := by
  have e1 := checkE_01 a
  have e2 := checkE_01 b
  omega
theorem both_ok {a b : D} (h : max (checkE a) (checkE b) = 0) : checkE a = 0 ∧ checkE b = 0 := by
  have e1 := checkE_01 a
  have e2 := checkE_01 b
  omega
theorem c_Mul (w₀ : World) (h : AHeap) (a b : D) (la : a.dig.length ≤ 9223372036854775807) (lb : b.dig.length ≤ 9223372036854775807) :
    ACall Tryz.prog w₀ 20 [decA a, decA b] h (fun v h' => v = .tuple [decA (mulE a b).1, .int .i64 (mulE a b).2] ∧ h' = h) := by
  refine acall_intro (n := 32) (rs := [.cell 4 27, .tmp 5]) Tryz.func20 rfl rfl rfl rfl (Nat.le_of_ble_eq_true rfl) ?_
  simp only [initSlots]
  -- region 0  decimals.go:248
  refine awp_rseq [2, 3, 4] (by rfl) fun K hK => ?_
  refine aOps_box (by rfl) (by rfl) (by rfl) fun k0q0 hk0q0 => ?_
  try have hf_0q0 : h k0q0 = none := by first | assumption | (simp only [AHeap.set_none] at hk0q0; simp only [hk0q0])
  skip
  refine aOps_box (by rfl) (by rfl) (by rfl) fun k0q1 hk0q1 => ?_
  have ne_0q1_0q0 : k0q1 ≠ k0q0 := by simp only [AHeap.set_none] at hk0q1; simp only [hk0q1, ne_eq, not_false_eq_true]
  try have hf_0q1 : h k0q1 = none := by first | assumption | (simp only [AHeap.set_none] at hk0q1; simp only [hk0q1])
  skip
  refine aOps_alloc ze27 (cs := [.bool false, .str [], .int .i64 0]) (by rfl) fun k0q2 hk0q2 => ?_
  have ne_0q2_0q0 : k0q2 ≠ k0q0 := by simp only [AHeap.set_none] at hk0q2; simp only [hk0q2, ne_eq, not_false_eq_true]
  have ne_0q2_0q1 : k0q2 ≠ k0q1 := by simp only [AHeap.set_none] at hk0q2; simp only [hk0q2, ne_eq, not_false_eq_true]
  try have hf_0q2 : h k0q2 = none := by first | assumption | (simp only [AHeap.set_none] at hk0q2; simp only [hk0q2])
  simp (decide := true) only [aOps_nil, ev, absV, absS, putD, Slots.put, Slots.get, Slots.keep, if_true, if_false, true_and, ↓ap_assign, pop_assign, AVal.cells, Nat.zero_add, decA]
  repeat (with_reducible refine And.intro ?_ ?_; · first | trivial | omega | (intro hg; simp only [Bool.and_eq_true, Bool.or_eq_true, Bool.not_eq_true', Bool.and_eq_false_iff, Bool.or_eq_false_iff, Bool.not_eq_false', decide_eq_true_eq, decide_eq_false_iff_not, eqNil] at hg; omega) | (simp only [List.length_append, List.length_map, List.length_range, List.length_replicate, List.length_take, List.length_drop, List.length_cons, List.length_nil, List.length_set, List.length_reverse]; omega))
  apply hK; clear hK K
  refine awp_seq ?_
  -- region 1  decimals.go:249
  refine awp_rseq [2, 3, 4, 6] (by rfl) fun K hK => ?_
  simp (decide := true) only [ev, putD, Slots.put, Slots.get, if_true, if_false, true_and, ↓ap_loadL, apL_mk, pLoad_agg ag27 sz27, rd_ne', ne_eq, not_false_eq_true, ne_0q1_0q0.symm, ne_0q2_0q0.symm, ne_0q2_0q1.symm, rd_any, cellsAt, List.getD_cons_zero, List.getD_cons_succ, Nat.zero_add, Nat.reduceAdd, lv_bool, lv_int, lv_str, allLive, Bool.and_true]
  repeat (with_reducible refine And.intro ?_ ?_; · first | trivial | omega | (intro hg; simp only [Bool.and_eq_true, Bool.or_eq_true, Bool.not_eq_true', Bool.and_eq_false_iff, Bool.or_eq_false_iff, Bool.not_eq_false', decide_eq_true_eq, decide_eq_false_iff_not, eqNil] at hg; omega) | (simp only [List.length_append, List.length_map, List.length_range, List.length_replicate, List.length_take, List.length_drop, List.length_cons, List.length_nil, List.length_set, List.length_reverse]; omega))
  refine aOps_callV (V := .int .i64 (max (checkE a) (checkE b))) (by rfl) (by rfl) (c_both w₀ _ a b la lb) ?_
  simp (decide := true) only [aOps_nil, ev, putD, Slots.put, Slots.get, Slots.keep, if_true, if_false, true_and, ↓ap_assign, pop_assign]
  repeat (with_reducible refine And.intro ?_ ?_; · first | trivial | omega | (intro hg; simp only [Bool.and_eq_true, Bool.or_eq_true, Bool.not_eq_true', Bool.and_eq_false_iff, Bool.or_eq_false_iff, Bool.not_eq_false', decide_eq_true_eq, decide_eq_false_iff_not, eqNil] at hg; omega) | (simp only [List.length_append, List.length_map, List.length_range, List.length_replicate, List.length_take, List.length_drop, List.length_cons, List.length_nil, List.length_set, List.length_reverse]; omega))
  apply hK; clear hK K
  -- region 2  decimals.go:249
  refine awp_rseq [2, 3, 4, 6, 11] (by rfl) fun K hK => ?_
  simp (decide := true) only [aOps_nil, ev, absV, absS, putD, Slots.put, Slots.get, Slots.keep, if_true, if_false, true_and, ↓ap_move, pop_move, ↓ap_binOp, pop_binOp, isNilC_int, cond_false, pBinX_int, pI_neq]
  repeat (with_reducible refine And.intro ?_ ?_; · first | trivial | omega | (intro hg; simp only [Bool.and_eq_true, Bool.or_eq_true, Bool.not_eq_true', Bool.and_eq_false_iff, Bool.or_eq_false_iff, Bool.not_eq_false', decide_eq_true_eq, decide_eq_false_iff_not, eqNil] at hg; omega) | (simp only [List.length_append, List.length_map, List.length_range, List.length_replicate, List.length_take, List.length_drop, List.length_cons, List.length_nil, List.length_set, List.length_reverse]; omega))
  apply hK; clear hK K
  refine awp_cond (b := _) rfl (fun hb1 => ?_) (fun hb1 => ?_)
  · try simp only [decide_eq_false_iff_not, Bool.not_eq_true'] at hb1
    -- region 3  decimals.go:250
    refine awp_rseq [4, 5] (by rfl) fun K hK => ?_
    simp (decide := true) only [ev, absV, absS, putD, Slots.put, Slots.get, if_true, if_false, true_and, ↓ap_build, ↓pop_buildL, bld27_, evP, List.map_nil, ↓ap_move, pop_move]
    repeat (with_reducible refine And.intro ?_ ?_; · first | trivial | omega | (intro hg; simp only [Bool.and_eq_true, Bool.or_eq_true, Bool.not_eq_true', Bool.and_eq_false_iff, Bool.or_eq_false_iff, Bool.not_eq_false', decide_eq_true_eq, decide_eq_false_iff_not, eqNil] at hg; omega) | (simp only [List.length_append, List.length_map, List.length_range, List.length_replicate, List.length_take, List.length_drop, List.length_cons, List.length_nil, List.length_set, List.length_reverse]; omega))
    refine aOps_store (by rfl) (by rfl) (by repeat (first | exact AHeap.set_same _ _ _ | assumption | refine (AHeap.set_ne _ _ (by first | assumption | exact Ne.symm (by assumption))).trans ?_)) sz27 (by rfl) (by rfl) (by first | exact Nat.le_refl _ | decide | (simp; done) | (simp; omega)) (Nat.zero_le _) (by rfl) ?_
    simp only [AHeap.set_set, AVal.cells]
    simp (decide := true) only [aOps_nil, ev, putD, Slots.put, Slots.get, Slots.keep, if_true, if_false, true_and, ↓ap_assign, pop_assign, setAt, List.set_cons_zero, List.set_cons_succ, Nat.zero_add, Nat.reduceAdd]
    repeat (with_reducible refine And.intro ?_ ?_; · first | trivial | omega | (intro hg; simp only [Bool.and_eq_true, Bool.or_eq_true, Bool.not_eq_true', Bool.and_eq_false_iff, Bool.or_eq_false_iff, Bool.not_eq_false', decide_eq_true_eq, decide_eq_false_iff_not, eqNil] at hg; omega) | (simp only [List.length_append, List.length_map, List.length_range, List.length_replicate, List.length_take, List.length_drop, List.length_cons, List.length_nil, List.length_set, List.length_reverse]; omega))
    apply hK; clear hK K
    refine awp_ret ?_
    try simp only [thenA_ret]
    refine retA_ret h (by repeat (first | exact Sub.refl _ | assumption | refine Sub.trans_set ?_ (by assumption))) (?_) ?_
    · simp (decide := true) only [resPre, resV_tmp, resV_cell, Slots.get, if_true, if_false, and_true, resV_tmp, resV_cell, pLoad_agg ag27 sz27, rd_set, cellsAt, List.getD_cons_zero, List.getD_cons_succ, Nat.zero_add, Nat.reduceAdd, lv_bool, lv_int, lv_str, allLive, Bool.and_true, cellsAt, List.getD_cons_zero, List.getD_cons_succ, Nat.zero_add, Nat.reduceAdd, lv_bool, lv_int, lv_str, allLive, Bool.and_true]
    
    simp (decide := true) only [Slots.get, if_true, if_false, and_true, resOfG_two, resV_tmp, resV_cell, pLoad_agg ag27 sz27, rd_set, cellsAt, List.getD_cons_zero, List.getD_cons_succ, Nat.zero_add, Nat.reduceAdd, lv_bool, lv_int, lv_str, allLive, Bool.and_true, cellsAt, List.getD_cons_zero, List.getD_cons_succ, Nat.zero_add, Nat.reduceAdd, lv_bool, lv_int, lv_str, allLive, Bool.and_true, decA]
    obtain ⟨e1, e2⟩ := both_bad hb1
    rw [mulE, if_neg e2, e1]
    rfl
  · try simp only [decide_eq_true_eq, Bool.not_eq_false'] at hb1
    obtain ⟨ca, cb⟩ := both_ok (by simpa using hb1)
    obtain ⟨sa, da, na, _⟩ := Small_of_check ca
    obtain ⟨sb, db, nb, _⟩ := Small_of_check cb
    have ha1 := sa.l
    have ha2 := sa.s0
    have ha3 := sa.s1
    have hb1' := sb.l
    have hb2' := sb.s0
    have hb3' := sb.s1
    refine awp_skip ?_
    change Awp _ _ _ _ _ _ _
    -- region 4  decimals.go:252
    refine awp_dseq_anyT 18 [4, 5] mixed (by kernel_rfl) (by rfl) fun K hK => ?_
    simp only [List.take_succ_cons, List.take_zero, List.drop_succ_cons, List.drop_zero]
    simp (decide := true) only [ev, putD, Slots.put, Slots.get, if_true, if_false, true_and, ↓vp_fieldAddr, pop_fieldAddr, fa27_0, ↓vp_load, pop_load, pLoad_one ag4, ↓vp_binOp, pop_binOp, isNilC_tmp, cond_false, pBinX_bne, Tryz.underlying4, fa27_1, pLoad_one ag9, rd_ne', ne_eq, not_false_eq_true, ne_0q1_0q0.symm, ne_0q2_0q0.symm, ne_0q2_0q1.symm, rd_any, List.getD_cons_zero, List.getD_cons_succ, Nat.zero_add, lv_bool, lv_str]
    repeat (with_reducible refine And.intro ?_ ?_; · first | trivial | omega | (intro hg; simp only [Bool.and_eq_true, Bool.or_eq_true, Bool.not_eq_true', Bool.and_eq_false_iff, Bool.or_eq_false_iff, Bool.not_eq_false', decide_eq_true_eq, decide_eq_false_iff_not, eqNil] at hg; omega) | (simp only [List.length_append, List.length_map, List.length_range, List.length_replicate, List.length_take, List.length_drop, List.length_cons, List.length_nil, List.length_set, List.length_reverse]; omega))
    refine vOps_callV (V := .str (fixS (natOf a.dig * natOf b.dig) (a.dig.length + b.dig.length))) (by rfl) (by rfl) (c_times w₀ _ a.dig b.dig da db (by omega) (by omega)) ?_
    simp (decide := true) only [ev, putD, Slots.put, Slots.get, if_true, if_false, true_and, ↓vp_fieldAddr, pop_fieldAddr, fa27_2, ↓vp_load, pop_load, pLoad_one ag3, ↓vp_binOp, pop_binOp, isNilC_tmp, cond_false, pBinX_int, pI_add, rd_ne', ne_eq, not_false_eq_true, ne_0q1_0q0.symm, ne_0q2_0q0.symm, ne_0q2_0q1.symm, rd_any, List.getD_cons_zero, List.getD_cons_succ, Nat.zero_add, lv_int]
    try simp (disch := omega) only [wrap_i64]
    repeat (with_reducible refine And.intro ?_ ?_; · first | trivial | omega | (intro hg; simp only [Bool.and_eq_true, Bool.or_eq_true, Bool.not_eq_true', Bool.and_eq_false_iff, Bool.or_eq_false_iff, Bool.not_eq_false', decide_eq_true_eq, decide_eq_false_iff_not, eqNil] at hg; omega) | (simp only [List.length_append, List.length_map, List.length_range, List.length_replicate, List.length_take, List.length_drop, List.length_cons, List.length_nil, List.length_set, List.length_reverse]; omega))
    refine vOps_callV (V := .tuple [decA (normE (a.neg != b.neg) (natOf a.dig * natOf b.dig) (a.scale + b.scale)).1, .int .i64 (normE (a.neg != b.neg) (natOf a.dig * natOf b.dig) (a.scale + b.scale)).2]) (by rfl) (by rfl) ((c_normal w₀ _ (a.neg != b.neg) _ (a.scale + b.scale) (fixS_all _ _) (by rw [fixS_length]; omega) (by omega) (by omega)).val (by rw [natOf_fixS _ _ (prod_lt da db)])) ?_
    simp (decide := true) only [vOps_nil, ev, putD, Slots.put, Slots.get, if_true, if_false, true_and, ↓vp_extract, pop_extract, pExt_tuple, List.length_cons, List.length_nil, List.getD_cons_zero, List.getD_cons_succ, List.getD_cons_zero, List.getD_cons_succ, Nat.zero_add, Nat.reduceAdd, decA]
    repeat (with_reducible refine And.intro ?_ ?_; · first | trivial | omega | (intro hg; simp only [Bool.and_eq_true, Bool.or_eq_true, Bool.not_eq_true', Bool.and_eq_false_iff, Bool.or_eq_false_iff, Bool.not_eq_false', decide_eq_true_eq, decide_eq_false_iff_not, eqNil] at hg; omega) | (simp only [List.length_append, List.length_map, List.length_range, List.length_replicate, List.length_take, List.length_drop, List.length_cons, List.length_nil, List.length_set, List.length_reverse]; omega))
    try simp only [vOps_nil, fOps_nil]
    refine aOps_store (by rfl) (by rfl) (by repeat (first | exact AHeap.set_same _ _ _ | assumption | refine (AHeap.set_ne _ _ (by first | assumption | exact Ne.symm (by assumption))).trans ?_)) sz27 (by rfl) (by rfl) (by first | exact Nat.le_refl _ | decide | (simp; done) | (simp; omega)) (Nat.zero_le _) (by rfl) ?_
    simp only [AHeap.set_set, AVal.cells]
    simp (decide := true) only [aOps_nil, ev, putD, Slots.put, Slots.get, Slots.keep, if_true, if_false, true_and, ↓ap_assign, pop_assign, setAt, List.set_cons_zero, List.set_cons_succ, Nat.zero_add, Nat.reduceAdd]
    repeat (with_reducible refine And.intro ?_ ?_; · first | trivial | omega | (intro hg; simp only [Bool.and_eq_true, Bool.or_eq_true, Bool.not_eq_true', Bool.and_eq_false_iff, Bool.or_eq_false_iff, Bool.not_eq_false', decide_eq_true_eq, decide_eq_false_iff_not, eqNil] at hg; omega) | (simp only [List.length_append, List.length_map, List.length_range, List.length_replicate, List.length_take, List.length_drop, List.length_cons, List.length_nil, List.length_set, List.length_reverse]; omega))
    apply hK; clear hK K
    refine awp_ret ?_
    try simp only [thenA_ret, inBlockA_ret]
    refine retA_ret h (by repeat (first | exact Sub.refl _ | assumption | refine Sub.trans_set ?_ (by assumption))) (?_) ?_
    · simp (decide := true) only [resPre, resV_tmp, resV_cell, Slots.get, if_true, if_false, and_true, resV_tmp, resV_cell, pLoad_agg ag27 sz27, rd_set, cellsAt, List.getD_cons_zero, List.getD_cons_succ, Nat.zero_add, Nat.reduceAdd, lv_bool, lv_int, lv_str, allLive, Bool.and_true, cellsAt, List.getD_cons_zero, List.getD_cons_succ, Nat.zero_add, Nat.reduceAdd, lv_bool, lv_int, lv_str, allLive, Bool.and_true]
    
    simp (decide := true) only [Slots.get, if_true, if_false, and_true, resOfG_two, resV_tmp, resV_cell, pLoad_agg ag27 sz27, rd_set, cellsAt, List.getD_cons_zero, List.getD_cons_succ, Nat.zero_add, Nat.reduceAdd, lv_bool, lv_int, lv_str, allLive, Bool.and_true, cellsAt, List.getD_cons_zero, List.getD_cons_succ, Nat.zero_add, Nat.reduceAdd, lv_bool, lv_int, lv_str, allLive, Bool.and_true, decA]
    rw [mulE, if_pos ⟨ca, cb⟩]

theorem c_repeatN (w₀ : World) (h : AHeap) (b : UInt8) (n : Int) (h0 : 0 ≤ n) (hn : n ≤ 140737488355328) : ACall Tryz.prog w₀ 53 [.str [b], .int .i64 n] h (fun v h' => v = .str (List.replicate n.toNat b) ∧ h' = h) := by
  have e := c_repeat w₀ h b n.toNat (by omega)
  rw [show ((n.toNat : Nat) : Int) = n by omega] at e
  exact e
/-- The digits of a quotient. -/
def quoN (a b : D) : Nat := natOf a.dig * 10 ^ (30 - a.scale + b.scale).toNat / (natOf b.dig * 10 ^ (-(30 - a.scale + b.scale)).toNat)
def divE (a b : D) : D × Int :=
  if checkE a = 0 ∧ checkE b = 0 then
    if b.dig = [48] then (noD, 7) else normE (a.neg != b.neg) (quoN a b) 30
  else (noD, 1)
/-- Zero is written in one way. -/
theorem zero_dig {b : D} (cb : checkE b = 0) (h : ¬b.dig = [48]) : natOf b.dig ≠ 0 := by
  obtain ⟨sb, db, nb, hn⟩ := Small_of_check cb
  intro e
  rw [e, normE_zero] at hn
  have := congrArg (fun q : D × Int => q.1.dig) hn
  exact h this.symm
set_option maxHeartbeats 1000000 in
theorem c_Div (w₀ : World) (h : AHeap) (a b : D) (la : a.dig.length ≤ 9223372036854775807) (lb : b.dig.length ≤ 9223372036854775807) :
    ACall Tryz.prog w₀ 25 [decA a, decA b] h (fun v h' => v = .tuple [decA (divE a b).1, .int .i64 (divE a b).2] ∧ h' = h) := by
  refine acall_intro (n := 53) (rs := [.cell 4 27, .tmp 5]) Tryz.func25 rfl rfl rfl rfl (Nat.le_of_ble_eq_true rfl) ?_
  simp only [initSlots]
  -- region 0  decimals.go:273
  refine awp_rseq [2, 3, 4] (by rfl) fun K hK => ?_
  refine aOps_box (by rfl) (by rfl) (by rfl) fun k0q0 hk0q0 => ?_
  try have hf_0q0 : h k0q0 = none := by first | assumption | (simp only [AHeap.set_none] at hk0q0; simp only [hk0q0])
  skip
  refine aOps_box (by rfl) (by rfl) (by rfl) fun k0q1 hk0q1 => ?_
  have ne_0q1_0q0 : k0q1 ≠ k0q0 := by simp only [AHeap.set_none] at hk0q1; simp only [hk0q1, ne_eq, not_false_eq_true]
  try have hf_0q1 : h k0q1 = none := by first | assumption | (simp only [AHeap.set_none] at hk0q1; simp only [hk0q1])
  skip
  refine aOps_alloc ze27 (cs := [.bool false, .str [], .int .i64 0]) (by rfl) fun k0q2 hk0q2 => ?_
  have ne_0q2_0q0 : k0q2 ≠ k0q0 := by simp only [AHeap.set_none] at hk0q2; simp only [hk0q2, ne_eq, not_false_eq_true]
  have ne_0q2_0q1 : k0q2 ≠ k0q1 := by simp only [AHeap.set_none] at hk0q2; simp only [hk0q2, ne_eq, not_false_eq_true]
  try have hf_0q2 : h k0q2 = none := by first | assumption | (simp only [AHeap.set_none] at hk0q2; simp only [hk0q2])
  simp (decide := true) only [aOps_nil, ev, absV, absS, putD, Slots.put, Slots.get, Slots.keep, if_true, if_false, true_and, ↓ap_assign, pop_assign, AVal.cells, Nat.zero_add, decA]
  repeat (with_reducible refine And.intro ?_ ?_; · first | trivial | omega | (intro hg; simp only [Bool.and_eq_true, Bool.or_eq_true, Bool.not_eq_true', Bool.and_eq_false_iff, Bool.or_eq_false_iff, Bool.not_eq_false', decide_eq_true_eq, decide_eq_false_iff_not, eqNil] at hg; omega) | (simp only [List.length_append, List.length_map, List.length_range, List.length_replicate, List.length_take, List.length_drop, List.length_cons, List.length_nil, List.length_set, List.length_reverse]; omega))
  apply hK; clear hK K
  refine awp_seq ?_
  -- region 1  decimals.go:274
  refine awp_rseq [2, 3, 4, 6] (by rfl) fun K hK => ?_
  simp (decide := true) only [ev, putD, Slots.put, Slots.get, if_true, if_false, true_and, ↓ap_loadL, apL_mk, pLoad_agg ag27 sz27, rd_ne', ne_eq, not_false_eq_true, ne_0q1_0q0.symm, ne_0q2_0q0.symm, ne_0q2_0q1.symm, rd_any, cellsAt, List.getD_cons_zero, List.getD_cons_succ, Nat.zero_add, Nat.reduceAdd, lv_bool, lv_int, lv_str, allLive, Bool.and_true]
  repeat (with_reducible refine And.intro ?_ ?_; · first | trivial | omega | (intro hg; simp only [Bool.and_eq_true, Bool.or_eq_true, Bool.not_eq_true', Bool.and_eq_false_iff, Bool.or_eq_false_iff, Bool.not_eq_false', decide_eq_true_eq, decide_eq_false_iff_not, eqNil] at hg; omega) | (simp only [List.length_append, List.length_map, List.length_range, List.length_replicate, List.length_take, List.length_drop, List.length_cons, List.length_nil, List.length_set, List.length_reverse]; omega))
  refine aOps_callV (V := .int .i64 (max (checkE a) (checkE b))) (by rfl) (by rfl) (c_both w₀ _ a b la lb) ?_
  simp (decide := true) only [aOps_nil, ev, putD, Slots.put, Slots.get, Slots.keep, if_true, if_false, true_and, ↓ap_assign, pop_assign]
  repeat (with_reducible refine And.intro ?_ ?_; · first | trivial | omega | (intro hg; simp only [Bool.and_eq_true, Bool.or_eq_true, Bool.not_eq_true', Bool.and_eq_false_iff, Bool.or_eq_false_iff, Bool.not_eq_false', decide_eq_true_eq, decide_eq_false_iff_not, eqNil] at hg; omega) | (simp only [List.length_append, List.length_map, List.length_range, List.length_replicate, List.length_take, List.length_drop, List.length_cons, List.length_nil, List.length_set, List.length_reverse]; omega))
  apply hK; clear hK K
  -- region 2  decimals.go:274
  refine awp_rseq [2, 3, 4, 6, 14] (by rfl) fun K hK => ?_
  simp (decide := true) only [aOps_nil, ev, absV, absS, putD, Slots.put, Slots.get, Slots.keep, if_true, if_false, true_and, ↓ap_move, pop_move, ↓ap_binOp, pop_binOp, isNilC_int, cond_false, pBinX_int, pI_neq]
  repeat (with_reducible refine And.intro ?_ ?_; · first | trivial | omega | (intro hg; simp only [Bool.and_eq_true, Bool.or_eq_true, Bool.not_eq_true', Bool.and_eq_false_iff, Bool.or_eq_false_iff, Bool.not_eq_false', decide_eq_true_eq, decide_eq_false_iff_not, eqNil] at hg; omega) | (simp only [List.length_append, List.length_map, List.length_range, List.length_replicate, List.length_take, List.length_drop, List.length_cons, List.length_nil, List.length_set, List.length_reverse]; omega))
  apply hK; clear hK K
  refine awp_cond (b := _) rfl (fun hb1 => ?_) (fun hb1 => ?_)
  · try simp only [decide_eq_false_iff_not, Bool.not_eq_true'] at hb1
    -- region 3  decimals.go:275
    refine awp_rseq [4, 5] (by rfl) fun K hK => ?_
    simp (decide := true) only [ev, absV, absS, putD, Slots.put, Slots.get, if_true, if_false, true_and, ↓ap_build, ↓pop_buildL, bld27_, evP, List.map_nil, ↓ap_move, pop_move]
    repeat (with_reducible refine And.intro ?_ ?_; · first | trivial | omega | (intro hg; simp only [Bool.and_eq_true, Bool.or_eq_true, Bool.not_eq_true', Bool.and_eq_false_iff, Bool.or_eq_false_iff, Bool.not_eq_false', decide_eq_true_eq, decide_eq_false_iff_not, eqNil] at hg; omega) | (simp only [List.length_append, List.length_map, List.length_range, List.length_replicate, List.length_take, List.length_drop, List.length_cons, List.length_nil, List.length_set, List.length_reverse]; omega))
    refine aOps_store (by rfl) (by rfl) (by repeat (first | exact AHeap.set_same _ _ _ | assumption | refine (AHeap.set_ne _ _ (by first | assumption | exact Ne.symm (by assumption))).trans ?_)) sz27 (by rfl) (by rfl) (by first | exact Nat.le_refl _ | decide | (simp; done) | (simp; omega)) (Nat.zero_le _) (by rfl) ?_
    simp only [AHeap.set_set, AVal.cells]
    simp (decide := true) only [aOps_nil, ev, putD, Slots.put, Slots.get, Slots.keep, if_true, if_false, true_and, ↓ap_assign, pop_assign, setAt, List.set_cons_zero, List.set_cons_succ, Nat.zero_add, Nat.reduceAdd]
    repeat (with_reducible refine And.intro ?_ ?_; · first | trivial | omega | (intro hg; simp only [Bool.and_eq_true, Bool.or_eq_true, Bool.not_eq_true', Bool.and_eq_false_iff, Bool.or_eq_false_iff, Bool.not_eq_false', decide_eq_true_eq, decide_eq_false_iff_not, eqNil] at hg; omega) | (simp only [List.length_append, List.length_map, List.length_range, List.length_replicate, List.length_take, List.length_drop, List.length_cons, List.length_nil, List.length_set, List.length_reverse]; omega))
    apply hK; clear hK K
    refine awp_ret ?_
    try simp only [thenA_ret]
    refine retA_ret h (by repeat (first | exact Sub.refl _ | assumption | refine Sub.trans_set ?_ (by assumption))) (?_) ?_
    · simp (decide := true) only [resPre, resV_tmp, resV_cell, Slots.get, if_true, if_false, and_true, resV_tmp, resV_cell, pLoad_agg ag27 sz27, rd_set, cellsAt, List.getD_cons_zero, List.getD_cons_succ, Nat.zero_add, Nat.reduceAdd, lv_bool, lv_int, lv_str, allLive, Bool.and_true, cellsAt, List.getD_cons_zero, List.getD_cons_succ, Nat.zero_add, Nat.reduceAdd, lv_bool, lv_int, lv_str, allLive, Bool.and_true]
    
    simp (decide := true) only [Slots.get, if_true, if_false, and_true, resOfG_two, resV_tmp, resV_cell, pLoad_agg ag27 sz27, rd_set, cellsAt, List.getD_cons_zero, List.getD_cons_succ, Nat.zero_add, Nat.reduceAdd, lv_bool, lv_int, lv_str, allLive, Bool.and_true, cellsAt, List.getD_cons_zero, List.getD_cons_succ, Nat.zero_add, Nat.reduceAdd, lv_bool, lv_int, lv_str, allLive, Bool.and_true, decA]
    obtain ⟨e1, e2⟩ := both_bad hb1
    rw [divE, if_neg e2, e1]
    rfl
  · try simp only [decide_eq_true_eq, Bool.not_eq_false'] at hb1
    obtain ⟨ca, cb⟩ := both_ok (by simpa using hb1)
    obtain ⟨sa, da, na, _⟩ := Small_of_check ca
    obtain ⟨sb, db, nb, _⟩ := Small_of_check cb
    have ha1 := sa.l
    have ha2 := sa.s0
    have ha3 := sa.s1
    have hb1' := sb.l
    have hb2' := sb.s0
    have hb3' := sb.s1
    refine awp_skip ?_
    change Awp _ _ _ _ _ _ _
    refine awp_seq ?_
    -- region 4  decimals.go:277
    refine awp_rseq [2, 3, 4, 19] (by rfl) fun K hK => ?_
    simp (decide := true) only [aOps_nil, ev, absV, absS, putD, Slots.put, Slots.get, Slots.keep, if_true, if_false, true_and, ↓ap_fieldAddr, pop_fieldAddr, fa27_1, ↓ap_loadL, apL_mk, pLoad_one ag9, ↓ap_binOp, pop_binOp, isNilC_str, cond_false, pBinX_str, pS_eql, rd_ne', ne_eq, not_false_eq_true, ne_0q2_0q1.symm, rd_any, List.getD_cons_zero, List.getD_cons_succ, Nat.zero_add, lv_str]
    repeat (with_reducible refine And.intro ?_ ?_; · first | trivial | omega | (intro hg; simp only [Bool.and_eq_true, Bool.or_eq_true, Bool.not_eq_true', Bool.and_eq_false_iff, Bool.or_eq_false_iff, Bool.not_eq_false', decide_eq_true_eq, decide_eq_false_iff_not, eqNil] at hg; omega) | (simp only [List.length_append, List.length_map, List.length_range, List.length_replicate, List.length_take, List.length_drop, List.length_cons, List.length_nil, List.length_set, List.length_reverse]; omega))
    apply hK; clear hK K
    refine awp_cond (b := _) rfl (fun hb2 => ?_) (fun hb2 => ?_)
    · try simp only [decide_eq_true_eq] at hb2
      -- region 5  decimals.go:278
      refine awp_rseq [4, 5] (by rfl) fun K hK => ?_
      simp (decide := true) only [ev, absV, absS, putD, Slots.put, Slots.get, if_false, true_and, ↓ap_build, ↓pop_buildL, bld27_, evP, List.map_nil]
      repeat (with_reducible refine And.intro ?_ ?_; · first | trivial | omega | (intro hg; simp only [Bool.and_eq_true, Bool.or_eq_true, Bool.not_eq_true', Bool.and_eq_false_iff, Bool.or_eq_false_iff, Bool.not_eq_false', decide_eq_true_eq, decide_eq_false_iff_not, eqNil] at hg; omega) | (simp only [List.length_append, List.length_map, List.length_range, List.length_replicate, List.length_take, List.length_drop, List.length_cons, List.length_nil, List.length_set, List.length_reverse]; omega))
      refine aOps_store (by rfl) (by rfl) (by repeat (first | exact AHeap.set_same _ _ _ | assumption | refine (AHeap.set_ne _ _ (by first | assumption | exact Ne.symm (by assumption))).trans ?_)) sz27 (by rfl) (by rfl) (by first | exact Nat.le_refl _ | decide | (simp; done) | (simp; omega)) (Nat.zero_le _) (by rfl) ?_
      simp only [AHeap.set_set, AVal.cells]
      simp (decide := true) only [aOps_nil, ev, absV, absS, putD, Slots.put, Slots.get, Slots.keep, if_true, if_false, true_and, ↓ap_assign, pop_assign, setAt, List.set_cons_zero, List.set_cons_succ, Nat.zero_add, Nat.reduceAdd]
      repeat (with_reducible refine And.intro ?_ ?_; · first | trivial | omega | (intro hg; simp only [Bool.and_eq_true, Bool.or_eq_true, Bool.not_eq_true', Bool.and_eq_false_iff, Bool.or_eq_false_iff, Bool.not_eq_false', decide_eq_true_eq, decide_eq_false_iff_not, eqNil] at hg; omega) | (simp only [List.length_append, List.length_map, List.length_range, List.length_replicate, List.length_take, List.length_drop, List.length_cons, List.length_nil, List.length_set, List.length_reverse]; omega))
      apply hK; clear hK K
      refine awp_ret ?_
      try simp only [thenA_ret]
      refine retA_ret h (by repeat (first | exact Sub.refl _ | assumption | refine Sub.trans_set ?_ (by assumption))) (?_) ?_
      · simp (decide := true) only [resPre, resV_tmp, resV_cell, Slots.get, if_true, if_false, and_true, resV_tmp, resV_cell, pLoad_agg ag27 sz27, rd_set, cellsAt, List.getD_cons_zero, List.getD_cons_succ, Nat.zero_add, Nat.reduceAdd, lv_bool, lv_int, lv_str, allLive, Bool.and_true, cellsAt, List.getD_cons_zero, List.getD_cons_succ, Nat.zero_add, Nat.reduceAdd, lv_bool, lv_int, lv_str, allLive, Bool.and_true]
      
      simp (decide := true) only [Slots.get, if_true, if_false, and_true, resOfG_two, resV_tmp, resV_cell, pLoad_agg ag27 sz27, rd_set, cellsAt, List.getD_cons_zero, List.getD_cons_succ, Nat.zero_add, Nat.reduceAdd, lv_bool, lv_int, lv_str, allLive, Bool.and_true, cellsAt, List.getD_cons_zero, List.getD_cons_succ, Nat.zero_add, Nat.reduceAdd, lv_bool, lv_int, lv_str, allLive, Bool.and_true, decA]
      rw [divE, if_pos ⟨ca, cb⟩, if_pos hb2]
      rfl
    · try simp only [decide_eq_false_iff_not] at hb2
      have hz := zero_dig cb hb2
      refine awp_skip ?_
      change Awp _ _ _ _ _ _ _
      -- region 6  decimals.go:280
      refine awp_dseq_all [2, 3, 4, 7, 8] mixed (by kernel_rfl) (by rfl) (by rfl) fun K hK => ?_
      simp (decide := true) only [aOps_nil, ev, putD, Slots.put, Slots.get, Slots.keep, if_true, if_false, true_and, ↓ap_fieldAddr, pop_fieldAddr, fa27_1, ↓ap_loadL, apL_mk, pLoad_one ag9, ↓ap_assign, pop_assign, rd_ne', ne_eq, not_false_eq_true, ne_0q1_0q0.symm, ne_0q2_0q0.symm, ne_0q2_0q1.symm, rd_any, List.getD_cons_zero, List.getD_cons_succ, Nat.zero_add, lv_str]
      repeat (with_reducible refine And.intro ?_ ?_; · first | trivial | omega | (intro hg; simp only [Bool.and_eq_true, Bool.or_eq_true, Bool.not_eq_true', Bool.and_eq_false_iff, Bool.or_eq_false_iff, Bool.not_eq_false', decide_eq_true_eq, decide_eq_false_iff_not, eqNil] at hg; omega) | (simp only [List.length_append, List.length_map, List.length_range, List.length_replicate, List.length_take, List.length_drop, List.length_cons, List.length_nil, List.length_set, List.length_reverse]; omega))
      apply hK; clear hK K
      refine awp_seq ?_
      -- region 7  decimals.go:281
      refine awp_rseq [2, 3, 4, 7, 8, 9] (by rfl) fun K hK => ?_
      simp (decide := true) only [aOps_nil, ev, absV, absS, putD, Slots.put, Slots.get, Slots.keep, if_true, if_false, true_and, ↓ap_fieldAddr, pop_fieldAddr, fa27_2, ↓ap_loadL, apL_mk, pLoad_one ag3, ↓ap_binOp, pop_binOp, isNilC_tmp, cond_false, pBinX_int, pI_sub, pI_add, ↓ap_assign, pop_assign, rd_ne', ne_eq, not_false_eq_true, ne_0q1_0q0.symm, ne_0q2_0q0.symm, ne_0q2_0q1.symm, rd_any, List.getD_cons_zero, List.getD_cons_succ, Nat.zero_add, lv_int]
      try simp (disch := omega) only [wrap_i64]
      repeat (with_reducible refine And.intro ?_ ?_; · first | trivial | omega | (intro hg; simp only [Bool.and_eq_true, Bool.or_eq_true, Bool.not_eq_true', Bool.and_eq_false_iff, Bool.or_eq_false_iff, Bool.not_eq_false', decide_eq_true_eq, decide_eq_false_iff_not, eqNil] at hg; omega) | (simp only [List.length_append, List.length_map, List.length_range, List.length_replicate, List.length_take, List.length_drop, List.length_cons, List.length_nil, List.length_set, List.length_reverse]; omega))
      apply hK; clear hK K
      -- region 8  decimals.go:281
      refine awp_rseq [2, 3, 4, 7, 8, 9, 32] (by rfl) fun K hK => ?_
      simp (decide := true) only [aOps_nil, ev, absV, absS, putD, Slots.put, Slots.get, Slots.keep, if_true, if_false, true_and, ↓ap_move, pop_move, ↓ap_binOp, pop_binOp, isNilC_int, cond_false, pBinX_int, pI_geq]
      repeat (with_reducible refine And.intro ?_ ?_; · first | trivial | omega | (intro hg; simp only [Bool.and_eq_true, Bool.or_eq_true, Bool.not_eq_true', Bool.and_eq_false_iff, Bool.or_eq_false_iff, Bool.not_eq_false', decide_eq_true_eq, decide_eq_false_iff_not, eqNil] at hg; omega) | (simp only [List.length_append, List.length_map, List.length_range, List.length_replicate, List.length_take, List.length_drop, List.length_cons, List.length_nil, List.length_set, List.length_reverse]; omega))
      apply hK; clear hK K
      refine awp_joinT [2, 3, 4, 7, 8] (fun g : List UInt8 × List UInt8 => [(2, .ptr (.own k0q0) 0), (3, .ptr (.own k0q1) 0), (4, .ptr (.own k0q2) 0), (7, .str g.1), (8, .str g.2)]) (fun g : List UInt8 × List UInt8 => ((h.set k0q0 ⟨[.bool a.neg, .str a.dig, .int .i64 a.scale], 0⟩).set k0q1 ⟨[.bool b.neg, .str b.dig, .int .i64 b.scale], 0⟩).set k0q2 ⟨[.bool false, .str [], .int .i64 0], 0⟩) (fun g : List UInt8 × List UInt8 => g.1.all dg = true ∧ g.2.all dg = true ∧ natOf g.1 = natOf a.dig * 10 ^ (30 - a.scale + b.scale).toNat ∧ natOf g.2 = natOf b.dig * 10 ^ (-(30 - a.scale + b.scale)).toNat ∧ g.1.length ≤ 200 ∧ g.2.length ≤ 200) ?_ ?_
      · refine awp_cond (b := _) rfl (fun hb3 => ?_) (fun hb3 => ?_)
        · try simp only [decide_eq_true_eq] at hb3
          -- region 9  decimals.go:282
          refine awp_r [2, 3, 4, 7, 8] (by rfl) ?_
          simp (decide := true) only [ev, putD, Slots.put, Slots.get, if_true, if_false, true_and, ↓ap_move, pop_move, decA]
          repeat (with_reducible refine And.intro ?_ ?_; · first | trivial | omega | (intro hg; simp only [Bool.and_eq_true, Bool.or_eq_true, Bool.not_eq_true', Bool.and_eq_false_iff, Bool.or_eq_false_iff, Bool.not_eq_false', decide_eq_true_eq, decide_eq_false_iff_not, eqNil] at hg; omega) | (simp only [List.length_append, List.length_map, List.length_range, List.length_replicate, List.length_take, List.length_drop, List.length_cons, List.length_nil, List.length_set, List.length_reverse]; omega))
          refine aOps_callV (V := .str (List.replicate (30 - a.scale + b.scale).toNat 48)) (by rfl) (by rfl) (c_repeatN w₀ _ 48 _ (by omega) (by omega)) ?_
          simp (decide := true) only [aOps_nil, ev, putD, Slots.put, Slots.get, Slots.keep, if_true, if_false, true_and, ↓ap_binOp, pop_binOp, isNilC_tmp, cond_false, pBinX_str, pS_add, ↓ap_assign, pop_assign]
          repeat (with_reducible refine And.intro ?_ ?_; · first | trivial | omega | (intro hg; simp only [Bool.and_eq_true, Bool.or_eq_true, Bool.not_eq_true', Bool.and_eq_false_iff, Bool.or_eq_false_iff, Bool.not_eq_false', decide_eq_true_eq, decide_eq_false_iff_not, eqNil] at hg; omega) | (simp only [List.length_replicate]; omega))
          try simp only [thenA_normal]
          first
          | (have hs : 0 ≤ 30 - a.scale + b.scale := hb3
             refine ⟨(a.dig ++ List.replicate (30 - a.scale + b.scale).toNat 48, b.dig), rfl, Sub.refl _, ?_⟩
             simp only [all_append, all_zeros, da, db, natOf_append, natOf_zeros, List.length_replicate, List.length_append, Bool.and_self, true_and, Nat.add_zero]
             rw [show (-(30 - a.scale + b.scale)).toNat = 0 by omega]
             exact ⟨by rw [Nat.pow_zero, Nat.mul_one], by omega, by omega⟩)
          | (have hs : ¬0 ≤ 30 - a.scale + b.scale := hb3
             refine ⟨(a.dig, b.dig ++ List.replicate (0 - (30 - a.scale + b.scale)).toNat 48), rfl, Sub.refl _, ?_⟩
             simp only [all_append, all_zeros, da, db, natOf_append, natOf_zeros, List.length_replicate, List.length_append, Bool.and_self, true_and, Nat.add_zero]
             rw [show (30 - a.scale + b.scale).toNat = 0 by omega, show (0 - (30 - a.scale + b.scale)).toNat = (-(30 - a.scale + b.scale)).toNat by omega]
             exact ⟨by rw [Nat.pow_zero, Nat.mul_one], rfl, by omega, by omega⟩)
        · try simp only [decide_eq_false_iff_not] at hb3
          -- region 10  decimals.go:284
          refine awp_r [2, 3, 4, 7, 8] (by rfl) ?_
          simp (decide := true) only [ev, putD, Slots.put, Slots.get, if_true, if_false, true_and, ↓ap_move, pop_move, ↓ap_unOp, pop_unOp, pU_neg, decA]
          try simp (disch := omega) only [wrap_i64]
          repeat (with_reducible refine And.intro ?_ ?_; · first | trivial | omega | (intro hg; simp only [Bool.and_eq_true, Bool.or_eq_true, Bool.not_eq_true', Bool.and_eq_false_iff, Bool.or_eq_false_iff, Bool.not_eq_false', decide_eq_true_eq, decide_eq_false_iff_not, eqNil] at hg; omega) | (simp only [List.length_append, List.length_map, List.length_range, List.length_replicate, List.length_take, List.length_drop, List.length_cons, List.length_nil, List.length_set, List.length_reverse]; omega))
          refine aOps_callV (V := .str (List.replicate (0 - (30 - a.scale + b.scale)).toNat 48)) (by rfl) (by rfl) (c_repeatN w₀ _ 48 _ (by omega) (by omega)) ?_
          simp (decide := true) only [aOps_nil, ev, putD, Slots.put, Slots.get, Slots.keep, if_true, if_false, true_and, ↓ap_binOp, pop_binOp, isNilC_tmp, cond_false, pBinX_str, pS_add, ↓ap_assign, pop_assign]
          repeat (with_reducible refine And.intro ?_ ?_; · first | trivial | omega | (intro hg; simp only [Bool.and_eq_true, Bool.or_eq_true, Bool.not_eq_true', Bool.and_eq_false_iff, Bool.or_eq_false_iff, Bool.not_eq_false', decide_eq_true_eq, decide_eq_false_iff_not, eqNil] at hg; omega) | (simp only [List.length_replicate]; omega))
          try simp only [thenA_normal]
          first
          | (have hs : 0 ≤ 30 - a.scale + b.scale := hb3
             refine ⟨(a.dig ++ List.replicate (30 - a.scale + b.scale).toNat 48, b.dig), rfl, Sub.refl _, ?_⟩
             simp only [all_append, all_zeros, da, db, natOf_append, natOf_zeros, List.length_replicate, List.length_append, Bool.and_self, true_and, Nat.add_zero]
             rw [show (-(30 - a.scale + b.scale)).toNat = 0 by omega]
             exact ⟨by rw [Nat.pow_zero, Nat.mul_one], by omega, by omega⟩)
          | (have hs : ¬0 ≤ 30 - a.scale + b.scale := hb3
             refine ⟨(a.dig, b.dig ++ List.replicate (0 - (30 - a.scale + b.scale)).toNat 48), rfl, Sub.refl _, ?_⟩
             simp only [all_append, all_zeros, da, db, natOf_append, natOf_zeros, List.length_replicate, List.length_append, Bool.and_self, true_and, Nat.add_zero]
             rw [show (30 - a.scale + b.scale).toNat = 0 by omega, show (0 - (30 - a.scale + b.scale)).toNat = (-(30 - a.scale + b.scale)).toNat by omega]
             exact ⟨by rw [Nat.pow_zero, Nat.mul_one], rfl, by omega, by omega⟩)
      · rintro ⟨x, y⟩ ⟨hx, hy, vx, vy, lx, ly⟩
        simp only at hx hy vx vy lx ly
        -- region 11  decimals.go:286
        refine awp_dseq_anyT 11 [4, 5] mixed (by kernel_rfl) (by rfl) fun K hK => ?_
        simp only [List.take_succ_cons, List.take_zero, List.drop_succ_cons, List.drop_zero]
        simp (decide := true) only [ev, putD, Slots.put, Slots.get, if_true, if_false, true_and, ↓vp_fieldAddr, pop_fieldAddr, fa27_0, ↓vp_load, pop_load, pLoad_one ag4, ↓vp_binOp, pop_binOp, isNilC_tmp, cond_false, pBinX_bne, Tryz.underlying4, ↓vp_move, pop_move, rd_ne', ne_eq, not_false_eq_true, ne_0q1_0q0.symm, ne_0q2_0q0.symm, ne_0q2_0q1.symm, rd_any, List.getD_cons_zero, Nat.zero_add, lv_bool]
        repeat (with_reducible refine And.intro ?_ ?_; · first | trivial | omega | (intro hg; simp only [Bool.and_eq_true, Bool.or_eq_true, Bool.not_eq_true', Bool.and_eq_false_iff, Bool.or_eq_false_iff, Bool.not_eq_false', decide_eq_true_eq, decide_eq_false_iff_not, eqNil] at hg; omega) | (simp only [List.length_append, List.length_map, List.length_range, List.length_replicate, List.length_take, List.length_drop, List.length_cons, List.length_nil, List.length_set, List.length_reverse]; omega))
        refine vOps_callV (V := .str (fixS (natOf x / natOf y) x.length)) (by rfl) (by rfl) (c_divided w₀ _ x y hx hy (by rw [vy]; exact Nat.mul_ne_zero hz (Nat.pos_iff_ne_zero.1 (Nat.pow_pos (by omega)))) (by omega) (by omega)) ?_
        refine vOps_callV (V := .tuple [decA (normE (a.neg != b.neg) (quoN a b) 30).1, .int .i64 (normE (a.neg != b.neg) (quoN a b) 30).2]) (by rfl) (by rfl) ((c_normal w₀ _ (a.neg != b.neg) _ 30 (fixS_all _ _) (by rw [fixS_length]; omega) (by omega) (by omega)).val (by rw [natOf_fixS _ _ (Nat.lt_of_le_of_lt (Nat.div_le_self _ _) (natOf_lt x hx)), vx, vy]; rfl)) ?_
        simp (decide := true) only [vOps_nil, ev, putD, Slots.put, Slots.get, if_true, if_false, true_and, ↓vp_extract, pop_extract, pExt_tuple, List.length_cons, List.length_nil, List.getD_cons_zero, List.getD_cons_succ, List.getD_cons_zero, List.getD_cons_succ, Nat.zero_add, Nat.reduceAdd, decA]
        repeat (with_reducible refine And.intro ?_ ?_; · first | trivial | omega | (intro hg; simp only [Bool.and_eq_true, Bool.or_eq_true, Bool.not_eq_true', Bool.and_eq_false_iff, Bool.or_eq_false_iff, Bool.not_eq_false', decide_eq_true_eq, decide_eq_false_iff_not, eqNil] at hg; omega) | (simp only [List.length_append, List.length_map, List.length_range, List.length_replicate, List.length_take, List.length_drop, List.length_cons, List.length_nil, List.length_set, List.length_reverse]; omega))
        try simp only [vOps_nil, fOps_nil]
        refine aOps_store (by rfl) (by rfl) (by repeat (first | exact AHeap.set_same _ _ _ | assumption | refine (AHeap.set_ne _ _ (by first | assumption | exact Ne.symm (by assumption))).trans ?_)) sz27 (by rfl) (by rfl) (by first | exact Nat.le_refl _ | decide | (simp; done) | (simp; omega)) (Nat.zero_le _) (by rfl) ?_
        simp only [AHeap.set_set, AVal.cells]
        simp (decide := true) only [aOps_nil, ev, putD, Slots.put, Slots.get, Slots.keep, if_true, if_false, true_and, ↓ap_assign, pop_assign, setAt, List.set_cons_zero, List.set_cons_succ, Nat.zero_add, Nat.reduceAdd]
        repeat (with_reducible refine And.intro ?_ ?_; · first | trivial | omega | (intro hg; simp only [Bool.and_eq_true, Bool.or_eq_true, Bool.not_eq_true', Bool.and_eq_false_iff, Bool.or_eq_false_iff, Bool.not_eq_false', decide_eq_true_eq, decide_eq_false_iff_not, eqNil] at hg; omega) | (simp only [List.length_append, List.length_map, List.length_range, List.length_replicate, List.length_take, List.length_drop, List.length_cons, List.length_nil, List.length_set, List.length_reverse]; omega))
        apply hK; clear hK K
        refine awp_ret ?_
        try simp only [thenA_ret, inBlockA_ret]
        refine retA_ret h (by repeat (first | exact Sub.refl _ | assumption | refine Sub.trans_set ?_ (by assumption))) (?_) ?_
        · simp (decide := true) only [resPre, resV_tmp, resV_cell, Slots.get, if_true, if_false, and_true, resV_tmp, resV_cell, pLoad_agg ag27 sz27, rd_set, cellsAt, List.getD_cons_zero, List.getD_cons_succ, Nat.zero_add, Nat.reduceAdd, lv_bool, lv_int, lv_str, allLive, Bool.and_true, cellsAt, List.getD_cons_zero, List.getD_cons_succ, Nat.zero_add, Nat.reduceAdd, lv_bool, lv_int, lv_str, allLive, Bool.and_true]
        
        simp (decide := true) only [Slots.get, if_true, if_false, and_true, resOfG_two, resV_tmp, resV_cell, pLoad_agg ag27 sz27, rd_set, cellsAt, List.getD_cons_zero, List.getD_cons_succ, Nat.zero_add, Nat.reduceAdd, lv_bool, lv_int, lv_str, allLive, Bool.and_true, cellsAt, List.getD_cons_zero, List.getD_cons_succ, Nat.zero_add, Nat.reduceAdd, lv_bool, lv_int, lv_str, allLive, Bool.and_true, decA]
        rw [divE, if_pos ⟨ca, cb⟩, if_neg hb2]
end Go.Proofs.YthiiakghjoeikaaGreatDoor

/-
  Contracts: Parse, Text, ToInt, Int of the package decimals, and what they call.
  Conditions: none.
-/
namespace Go.Proofs.YthiiakghjoeikaaGreatDoor
open Go.AM
open Go.Proofs
open Go.Dec
open Go.Lib (decDigits)
set_option maxRecDepth 100000

/-! ### strings.Cut at one byte -/
theorem indexByte_eq (c : UInt8) : ∀ s : List UInt8, Lib.indexByte s c = if c ∈ s then ((s.takeWhile (· != c)).length : Int) else -1
  | [] => by simp [Lib.indexByte]
  | b :: s => by
    have ih := indexByte_eq c s
    unfold Lib.indexByte
    by_cases e : b = c
    · subst e; simp
    · have e1 : (b == c) = false := by simpa using e
      have e2 : (b != c) = true := by simpa using e
      have e3 : ¬ c = b := fun h => e h.symm
      rw [e1, ih]
      by_cases hm : c ∈ s
      · simp only [hm, if_true, List.mem_cons, e3, or_true, List.takeWhile_cons, e2, List.length_cons, Bool.false_eq_true, if_false]
        have : ((((s.takeWhile (· != c)).length : Int) == -1) = false) := by simp
        rw [this]
        simp
      · simp [hm, e3]
def cutP (s : List UInt8) (c : UInt8) : List UInt8 × List UInt8 × Bool := if c ∈ s then (s.takeWhile (· != c), (s.dropWhile (· != c)).drop 1, true) else (s, [], false)
theorem drop_while_ne (c : UInt8) : ∀ s : List UInt8, c ∈ s → s.dropWhile (· != c) ≠ []
  | b :: s, hm => by
    rw [List.dropWhile_cons]
    split
    · rename_i hb
      have e : c ≠ b := fun e => by subst e; simp at hb
      exact drop_while_ne c s ((List.mem_cons.1 hm).resolve_left e)
    · simp
theorem numB_all {s : List UInt8} (h : numB s = true) : s.all dg = true := by
  unfold numB at h
  rw [Bool.and_eq_true] at h
  exact h.2
theorem take_while_len (s : List UInt8) (c : UInt8) : (s.takeWhile (· != c)).length ≤ s.length ∧ (c ∈ s → (s.takeWhile (· != c)).length < s.length) := by
  have h := congrArg List.length (List.takeWhile_append_dropWhile (p := (· != c)) (l := s))
  rw [List.length_append] at h
  refine ⟨by omega, fun hm => ?_⟩
  have := List.length_pos_iff.2 (drop_while_ne c s hm)
  omega
theorem c_indexByte (w₀ : World) (h : AHeap) (s : List UInt8) (c : UInt8) : ACall Tryz.prog w₀ 112 [.str s, .int .u8 c.toNat] h (fun v h' => v = .int .i64 (Lib.indexByte s c) ∧ h' = h) := by
  refine acall_of_calls (vals := [.string ⟨⟨s⟩⟩, .int .u8 c.toNat]) (val := .int .i64 (Lib.indexByte s c)) Tryz.func112 rfl rfl (fun φ vs hv => VRs_si hv) (fun φ => rfl) fun w => ?_
  refine (Tryz.stringslite_IndexByte ⟨⟨s⟩⟩ (c.toNat : Int) w).mono fun e w' ⟨e1, e2⟩ => ⟨?_, ?_⟩
  · rw [e1]
    simp
  · subst e2; exact Go.RowKit.Below.refl _ _
theorem c_index1 (w₀ : World) (h : AHeap) (s : List UInt8) (c : UInt8) (hl : s.length ≤ 9223372036854775807) :
    ACall Tryz.prog w₀ 92 [.str s, .str [c]] h (fun v h' => v = .int .i64 (Lib.indexByte s c) ∧ h' = h) := by
  refine acall_intro (n := 143) (rs := [.tmp 4]) Tryz.func92 rfl rfl rfl rfl (Nat.le_of_ble_eq_true rfl) ?_
  simp only [initSlots]
  -- region 0  strings.go:28
  refine awp_rseq [0, 1] (by rfl) fun K hK => ?_
  simp (decide := true) only [aOps_nil, ev, absV, absS, putD, Slots.put, Slots.keep, if_true, if_false, true_and, ↓ap_assign, pop_assign, Nat.zero_add]
  repeat (with_reducible refine And.intro ?_ ?_; · first | trivial | omega | (intro hg; simp only [Bool.and_eq_true, Bool.or_eq_true, Bool.not_eq_true', Bool.and_eq_false_iff, Bool.or_eq_false_iff, Bool.not_eq_false', decide_eq_true_eq, decide_eq_false_iff_not, eqNil] at hg; omega) )
  apply hK; clear hK K
  -- region 1  strings.go:29
  refine awp_rseq [0, 1, 5] (by rfl) fun K hK => ?_
  simp (decide := true) only [aOps_nil, ev, putD, Slots.put, Slots.get, Slots.keep, if_true, if_false, true_and, ↓ap_move, pop_move, ↓ap_len, pop_len, pLen_str Tryz.underlying9, ↓ap_assign, pop_assign, List.length_cons, List.length_nil, Nat.zero_add, show ((1 : Nat) : Int) = 1 from rfl]
  repeat (with_reducible refine And.intro ?_ ?_; · first | trivial | omega | (intro hg; simp only [Bool.and_eq_true, Bool.or_eq_true, Bool.not_eq_true', Bool.and_eq_false_iff, Bool.or_eq_false_iff, Bool.not_eq_false', decide_eq_true_eq, decide_eq_false_iff_not, eqNil] at hg; omega) )
  apply hK; clear hK K
  refine awp_seq ?_
  refine awp_block ?_
  -- region 2  strings.go:31
  refine awp_rseq [0, 1, 5, 16] (by rfl) fun K hK => ?_
  simp (decide := true) only [aOps_nil, ev, absV, absS, putD, Slots.put, Slots.get, Slots.keep, if_true, if_false, true_and, ↓ap_move, pop_move, ↓ap_binOp, pop_binOp, isNilC_int, cond_false, pBinX_int, pI_eql, ↓ag_move, agP, agQ_some, nthDst, gKnown_bool, guardB_bool_false, implies_true, decide_false, Bool.not_false, condV_true, Bool.false_or, ↓ag_binOp, isNilC_tmp, pBinX_str, pS_eql, ↓ap_pick, pop_pick, pPick_bool, pickV_or, ↓ap_assign, pop_assign]
  repeat (with_reducible refine And.intro ?_ ?_; · first | trivial | omega | (intro hg; simp only [Bool.and_eq_true, Bool.or_eq_true, Bool.not_eq_true', Bool.and_eq_false_iff, Bool.or_eq_false_iff, Bool.not_eq_false', decide_eq_true_eq, decide_eq_false_iff_not, eqNil] at hg; omega) )
  apply hK; clear hK K
  refine awp_cond (b := _) rfl (fun hb1 => ?_) (fun hb1 => ?_)
  · try simp only [decide_eq_true_eq] at hb1
    -- region 3  strings.go:32
    refine awp_rseq [4] (by rfl) fun K hK => ?_
    simp (decide := true) only [aOps_nil, ev, absV, absS, putD, Slots.put, Slots.keep, if_true, if_false, true_and, ↓ap_assign, pop_assign]
    repeat (with_reducible refine And.intro ?_ ?_; · first | trivial | omega | (intro hg; simp only [Bool.and_eq_true, Bool.or_eq_true, Bool.not_eq_true', Bool.and_eq_false_iff, Bool.or_eq_false_iff, Bool.not_eq_false', decide_eq_true_eq, decide_eq_false_iff_not, eqNil] at hg; omega) )
    apply hK; clear hK K
    refine awp_ret ?_
    try simp only [thenA_ret, inBlockA_ret]
    refine retA_ret _ (Sub.refl _) (resPre_tmp (resPre_nil)) ?_
    simp (decide := true) only [Slots.get, if_true, and_true, resOf_one]
    rw [← hb1]; simp [Lib.indexByte]
  · try simp only [decide_eq_false_iff_not] at hb1
    -- region 4  strings.go:33
    refine awp_rseq [0, 1, 5, 24] (by rfl) fun K hK => ?_
    simp (decide := true) only [aOps_nil, ev, absV, absS, putD, Slots.put, Slots.get, Slots.keep, if_true, if_false, true_and, ↓ap_move, pop_move, ↓ap_binOp, pop_binOp, isNilC_int, cond_false, pBinX_int, pI_eql, ↓ap_assign, pop_assign]
    repeat (with_reducible refine And.intro ?_ ?_; · first | trivial | omega | (intro hg; simp only [Bool.and_eq_true, Bool.or_eq_true, Bool.not_eq_true', Bool.and_eq_false_iff, Bool.or_eq_false_iff, Bool.not_eq_false', decide_eq_true_eq, decide_eq_false_iff_not, eqNil] at hg; omega) )
    apply hK; clear hK K
    refine awp_cond (b := _) rfl (fun hb2 => ?_) (fun hb2 => ?_)
    · try simp only [decide_eq_true_eq] at hb2
      -- region 5  strings.go:34
      refine awp_rseq [4] (by rfl) fun K hK => ?_
      simp (decide := true) only [ev, absV, absS, putD, Slots.put, Slots.get, if_true, if_false, true_and, and_true, ↓ap_move, pop_move, ↓ap_index, pop_index, pIndex_str Tryz.underlying9, List.length_cons, List.length_nil, Nat.zero_add, List.getD_cons_zero, Int.toNat_zero, show ((1 : Nat) : Int) = 1 from rfl]
      repeat (with_reducible refine And.intro ?_ ?_; · first | trivial | omega | (intro hg; simp only [Bool.and_eq_true, Bool.or_eq_true, Bool.not_eq_true', Bool.and_eq_false_iff, Bool.or_eq_false_iff, Bool.not_eq_false', decide_eq_true_eq, decide_eq_false_iff_not, eqNil] at hg; omega) )
      refine aOps_callV (V := .int .i64 (Lib.indexByte s c)) (by rfl) (by rfl) (c_indexByte w₀ _ s c) ?_
      simp (decide := true) only [aOps_nil, ev, putD, Slots.put, Slots.get, Slots.keep, if_true, if_false, true_and, ↓ap_assign, pop_assign]
      repeat (with_reducible refine And.intro ?_ ?_; · first | trivial | omega | (intro hg; simp only [Bool.and_eq_true, Bool.or_eq_true, Bool.not_eq_true', Bool.and_eq_false_iff, Bool.or_eq_false_iff, Bool.not_eq_false', decide_eq_true_eq, decide_eq_false_iff_not, eqNil] at hg; omega) )
      apply hK; clear hK K
      refine awp_ret ?_
      try simp only [thenA_ret, inBlockA_ret]
      refine retA_ret _ (Sub.refl _) (resPre_tmp (resPre_nil)) ?_
      simp (decide := true) only [Slots.get, if_true, and_true, resOf_one]
      all_goals first | rfl | exact ⟨rfl, rfl⟩ | (simp (decide := true) only [if_true, if_false, *]; done) | (trace_state; fail)
    · try simp only [decide_eq_false_iff_not] at hb2
      exact absurd trivial hb2
theorem c_cut1L (w₀ : World) (h : AHeap) (s : List UInt8) (c : UInt8) (hl : s.length ≤ 9223372036854775807) :
    ACall Tryz.prog w₀ 65 [.str s, .str [c]] h (fun v h' => v = .tuple [.str (cutP s c).1, .str (cutP s c).2.1, .bool (cutP s c).2.2] ∧ h' = h) := by
  have hi := indexByte_eq c s
  obtain ⟨t1, t2⟩ := take_while_len s c
  have hib : -1 ≤ Lib.indexByte s c ∧ Lib.indexByte s c < s.length ∨ Lib.indexByte s c = -1 := by
    rw [hi]
    split
    · rename_i hm
      have := t2 hm
      omega
    · exact .inr rfl
  refine acall_intro (n := 23) (rs := [.tmp 4, .tmp 5, .tmp 6]) Tryz.func65 rfl rfl rfl rfl (Nat.le_of_ble_eq_true rfl) ?_
  simp only [initSlots]
  -- region 0  strings.go:80
  refine awp_rseq [0, 1] (by rfl) fun K hK => ?_
  simp (decide := true) only [aOps_nil, ev, absV, absS, putD, Slots.put, Slots.keep, if_true, if_false, true_and, ↓ap_assign, pop_assign, Nat.zero_add]
  repeat (with_reducible refine And.intro ?_ ?_; · first | trivial | omega | (intro hg; simp only [Bool.and_eq_true, Bool.or_eq_true, Bool.not_eq_true', Bool.and_eq_false_iff, Bool.or_eq_false_iff, Bool.not_eq_false', decide_eq_true_eq, decide_eq_false_iff_not, eqNil] at hg; omega) | (simp only [List.length_append, List.length_map, List.length_range, List.length_replicate, List.length_take, List.length_drop, List.length_cons, List.length_nil, List.length_set, List.length_reverse]; omega))
  apply hK; clear hK K
  refine awp_seq ?_
  -- region 1  strings.go:81
  refine awp_rseq [0, 1, 7] (by rfl) fun K hK => ?_
  simp (decide := true) only [ev, putD, Slots.put, Slots.get, if_true, if_false, true_and, ↓ap_move, pop_move]
  repeat (with_reducible refine And.intro ?_ ?_; · first | trivial | omega | (intro hg; simp only [Bool.and_eq_true, Bool.or_eq_true, Bool.not_eq_true', Bool.and_eq_false_iff, Bool.or_eq_false_iff, Bool.not_eq_false', decide_eq_true_eq, decide_eq_false_iff_not, eqNil] at hg; omega) | (simp only [List.length_append, List.length_map, List.length_range, List.length_replicate, List.length_take, List.length_drop, List.length_cons, List.length_nil, List.length_set, List.length_reverse]; omega))
  refine aOps_callV (V := .int .i64 (Lib.indexByte s c)) (by rfl) (by rfl) (c_index1 w₀ _ s c hl) ?_
  simp (decide := true) only [aOps_nil, ev, putD, Slots.put, Slots.get, Slots.keep, if_true, if_false, true_and, ↓ap_assign, pop_assign]
  repeat (with_reducible refine And.intro ?_ ?_; · first | trivial | omega | (intro hg; simp only [Bool.and_eq_true, Bool.or_eq_true, Bool.not_eq_true', Bool.and_eq_false_iff, Bool.or_eq_false_iff, Bool.not_eq_false', decide_eq_true_eq, decide_eq_false_iff_not, eqNil] at hg; omega) | (simp only [List.length_append, List.length_map, List.length_range, List.length_replicate, List.length_take, List.length_drop, List.length_cons, List.length_nil, List.length_set, List.length_reverse]; omega))
  apply hK; clear hK K
  -- region 2  strings.go:81
  refine awp_rseq [0, 1, 7, 12] (by rfl) fun K hK => ?_
  simp (decide := true) only [aOps_nil, ev, absV, absS, putD, Slots.put, Slots.get, Slots.keep, if_true, if_false, true_and, ↓ap_move, pop_move, ↓ap_binOp, pop_binOp, isNilC_int, cond_false, pBinX_int, pI_geq]
  repeat (with_reducible refine And.intro ?_ ?_; · first | trivial | omega | (intro hg; simp only [Bool.and_eq_true, Bool.or_eq_true, Bool.not_eq_true', Bool.and_eq_false_iff, Bool.or_eq_false_iff, Bool.not_eq_false', decide_eq_true_eq, decide_eq_false_iff_not, eqNil] at hg; omega) | (simp only [List.length_append, List.length_map, List.length_range, List.length_replicate, List.length_take, List.length_drop, List.length_cons, List.length_nil, List.length_set, List.length_reverse]; omega))
  apply hK; clear hK K
  refine awp_cond (b := _) rfl (fun hb1 => ?_) (fun hb1 => ?_)
  · try simp only [decide_eq_true_eq] at hb1
    -- region 3  strings.go:82
    refine awp_dseq_all [4, 5, 6] mixed (by kernel_rfl) (by rfl) (by rfl) fun K hK => ?_
    simp (decide := true) only [ev, putD, Slots.put, Slots.get, if_true, if_false, true_and, ↓ap_move, pop_move, ↓ap_slice, pop_slice, evO, pSliceS_0i Tryz.underlying9, pSliceS_i0 Tryz.underlying9, pSliceS, bndA_none, bndA_int, ↓ap_len, pop_len, pLen_str Tryz.underlying9, ↓ap_binOp, pop_binOp, isNilC_tmp, cond_false, pBinX_int, pI_add, List.length_cons, List.length_nil, Nat.zero_add, show ((1 : Nat) : Int) = 1 from rfl]
    try simp (disch := omega) only [wrap_i64]
    try simp (decide := true) only [aOps_nil, ev, absV, absS, putD, Slots.put, Slots.get, Slots.keep, if_true, if_false, true_and, ↓ap_assign, pop_assign]
    repeat (with_reducible refine And.intro ?_ ?_; · first | trivial | omega | (intro hg; simp only [Bool.and_eq_true, Bool.or_eq_true, Bool.not_eq_true', Bool.and_eq_false_iff, Bool.or_eq_false_iff, Bool.not_eq_false', decide_eq_true_eq, decide_eq_false_iff_not, eqNil] at hg; omega) | (simp only [List.length_append, List.length_map, List.length_range, List.length_replicate, List.length_take, List.length_drop, List.length_cons, List.length_nil, List.length_set, List.length_reverse]; omega))
    apply hK; clear hK K
    refine awp_ret ?_
    try simp only [thenA_ret]
    refine retA_ret _ (Sub.refl _) (resPre_tmp (resPre_tmp (resPre_tmp (resPre_nil)))) ?_
    simp (decide := true) only [Slots.get, if_true, if_false, and_true, resOf_three]
    have hm : c ∈ s := by
      refine Classical.byContradiction fun hn => ?_
      rw [if_neg hn] at hi
      omega
    rw [if_pos hm] at hi
    have e1 := List.take_left (l₁ := s.takeWhile (· != c)) (l₂ := s.dropWhile (· != c))
    have e2 := List.drop_left (l₁ := s.takeWhile (· != c)) (l₂ := s.dropWhile (· != c))
    rw [List.takeWhile_append_dropWhile] at e1 e2
    rw [cutP, if_pos hm, hi]
    have e3 : (((s.takeWhile (· != c)).length : Int) + 1).toNat = (s.takeWhile (· != c)).length + 1 := by omega
    simp only [Int.toNat_natCast, Nat.sub_zero, List.drop_zero, e1, e3]
    rw [List.take_of_length_le (by rw [List.length_drop]; omega), ← List.drop_drop, e2]
  · try simp only [decide_eq_false_iff_not] at hb1
    refine awp_skip ?_
    change Awp _ _ _ _ _ _ _
    -- region 4  strings.go:84
    refine awp_rseq [4, 5, 6] (by rfl) fun K hK => ?_
    simp (decide := true) only [aOps_nil, ev, absV, absS, putD, Slots.put, Slots.get, Slots.keep, if_true, if_false, true_and, ↓ap_move, pop_move, ↓ap_assign, pop_assign]
    repeat (with_reducible refine And.intro ?_ ?_; · first | trivial | omega | (intro hg; simp only [Bool.and_eq_true, Bool.or_eq_true, Bool.not_eq_true', Bool.and_eq_false_iff, Bool.or_eq_false_iff, Bool.not_eq_false', decide_eq_true_eq, decide_eq_false_iff_not, eqNil] at hg; omega) | (simp only [List.length_append, List.length_map, List.length_range, List.length_replicate, List.length_take, List.length_drop, List.length_cons, List.length_nil, List.length_set, List.length_reverse]; omega))
    apply hK; clear hK K
    refine awp_ret ?_
    try simp only [thenA_ret, inBlockA_ret]
    refine retA_ret _ (Sub.refl _) (resPre_tmp (resPre_tmp (resPre_tmp (resPre_nil)))) ?_
    simp (decide := true) only [Slots.get, if_true, if_false, and_true, resOf_three]
    have hm : c ∉ s := fun hm => by
      rw [if_pos hm] at hi
      omega
    rw [cutP, if_neg hm]
theorem c_cut1 (w₀ : World) (h : AHeap) (s : List UInt8) (c : UInt8) (hl : s.length ≤ 9223372036854775807) :
    ACall Tryz.prog w₀ 43 [.str s, .str [c]] h (fun v h' => v = .tuple [.str (cutP s c).1, .str (cutP s c).2.1, .bool (cutP s c).2.2] ∧ h' = h) := by
  refine acall_intro (n := 13) (rs := [.tmp 4, .tmp 5, .tmp 6]) Tryz.func43 rfl rfl rfl rfl (Nat.le_of_ble_eq_true rfl) ?_
  simp only [initSlots]
  -- region 0  strings.go:1271
  refine awp_rseq [0, 1] (by rfl) fun K hK => ?_
  simp (decide := true) only [aOps_nil, ev, absV, absS, putD, Slots.put, Slots.keep, if_true, if_false, true_and, ↓ap_assign, pop_assign]
  repeat (with_reducible refine And.intro ?_ ?_; · first | trivial | omega | (intro hg; simp only [Bool.and_eq_true, Bool.or_eq_true, Bool.not_eq_true', Bool.and_eq_false_iff, Bool.or_eq_false_iff, Bool.not_eq_false', decide_eq_true_eq, decide_eq_false_iff_not, eqNil] at hg; omega) )
  apply hK; clear hK K
  -- region 1  strings.go:1272
  refine awp_rseq [4, 5, 6] (by rfl) fun K hK => ?_
  simp (decide := true) only [ev, putD, Slots.put, Slots.get, if_true, if_false, true_and, ↓ap_move, pop_move]
  repeat (with_reducible refine And.intro ?_ ?_; · first | trivial | omega | (intro hg; simp only [Bool.and_eq_true, Bool.or_eq_true, Bool.not_eq_true', Bool.and_eq_false_iff, Bool.or_eq_false_iff, Bool.not_eq_false', decide_eq_true_eq, decide_eq_false_iff_not, eqNil] at hg; omega) )
  refine aOps_callV (V := .tuple [.str (cutP s c).1, .str (cutP s c).2.1, .bool (cutP s c).2.2]) (by rfl) (by rfl) (c_cut1L w₀ _ s c hl) ?_
  simp (decide := true) only [aOps_nil, ev, putD, Slots.put, Slots.get, Slots.keep, if_true, if_false, true_and, ↓ap_extract, pop_extract, pExt_tuple, List.length_cons, List.length_nil, List.getD_cons_zero, List.getD_cons_succ, ↓ap_assign, pop_assign]
  repeat (with_reducible refine And.intro ?_ ?_; · first | trivial | omega | (intro hg; simp only [Bool.and_eq_true, Bool.or_eq_true, Bool.not_eq_true', Bool.and_eq_false_iff, Bool.or_eq_false_iff, Bool.not_eq_false', decide_eq_true_eq, decide_eq_false_iff_not, eqNil] at hg; omega) )
  apply hK; clear hK K
  refine awp_ret ?_
  try simp only [thenA_ret, inBlockA_ret]
  refine retA_ret _ (Sub.refl _) (resPre_tmp (resPre_tmp (resPre_tmp (resPre_nil)))) ?_
  simp (decide := true) only [Slots.get, if_true, if_false, and_true, resOf_three]
  all_goals first | rfl | exact ⟨rfl, rfl⟩ | (simp (decide := true) only [if_true, if_false, *]; done) | (trace_state; fail)

/-! ### Parse -/
def parseE (s : List UInt8) : D × Int :=
  if 1000 < s.length then (noD, 4) else
  let rest := if [45].isPrefixOf s = true then Lib.trimPrefix s [45] else Lib.trimPrefix s [43]
  if ((cutP rest 46).2.2 = true ∧ (cutP rest 46).2.1 = []) ∨ numB ((cutP rest 46).1 ++ (cutP rest 46).2.1) = false then (noD, 4)
  else normE ([45].isPrefixOf s) (natOf ((cutP rest 46).1 ++ (cutP rest 46).2.1)) (cutP rest 46).2.1.length
theorem cutP_len (s : List UInt8) (c : UInt8) : (cutP s c).1.length + (cutP s c).2.1.length ≤ s.length := by
  unfold cutP
  have h := congrArg List.length (List.takeWhile_append_dropWhile (p := (· != c)) (l := s))
  rw [List.length_append] at h
  split
  · simp only [List.length_drop]; omega
  · simp
theorem trimPrefix_len (s p : List UInt8) : (Lib.trimPrefix s p).length ≤ s.length := by
  unfold Lib.trimPrefix
  split
  · simp
  · exact Nat.le_refl _
theorem c_Parse (w₀ : World) (h : AHeap) (s : List UInt8) (hl : s.length ≤ 9223372036854775807) :
    ACall Tryz.prog w₀ 15 [.str s] h (fun v h' => v = .tuple [decA (parseE s).1, .int .i64 (parseE s).2] ∧ h' = h) := by
  refine acall_intro (n := 50) (rs := [.cell 2 27, .tmp 3]) Tryz.func15 rfl rfl rfl rfl (Nat.le_of_ble_eq_true rfl) ?_
  simp only [initSlots]
  -- region 0  decimals.go:100
  refine awp_rseq [0, 2] (by rfl) fun K hK => ?_
  refine aOps_alloc ze27 (cs := [.bool false, .str [], .int .i64 0]) (by rfl) fun k0q0 hk0q0 => ?_
  try have hf_0q0 : h k0q0 = none := by first | assumption | (simp only [AHeap.set_none] at hk0q0; simp only [hk0q0])
  simp (decide := true) only [aOps_nil, ev, absV, absS, putD, Slots.put, Slots.keep, if_true, if_false, true_and, ↓ap_assign, pop_assign]
  repeat (with_reducible refine And.intro ?_ ?_; · first | trivial | omega | (intro hg; simp only [Bool.and_eq_true, Bool.or_eq_true, Bool.not_eq_true', Bool.and_eq_false_iff, Bool.or_eq_false_iff, Bool.not_eq_false', decide_eq_true_eq, decide_eq_false_iff_not, eqNil] at hg; omega) | (simp only [List.length_append, List.length_map, List.length_range, List.length_replicate, List.length_take, List.length_drop, List.length_cons, List.length_nil, List.length_set, List.length_reverse]; omega))
  apply hK; clear hK K
  refine awp_seq ?_
  -- region 1  decimals.go:101
  refine awp_rseq [0, 2, 11] (by rfl) fun K hK => ?_
  simp (decide := true) only [aOps_nil, ev, absV, absS, putD, Slots.put, Slots.get, Slots.keep, if_true, if_false, true_and, ↓ap_move, pop_move, ↓ap_len, pop_len, pLen_str Tryz.underlying9, ↓ap_binOp, pop_binOp, isNilC_int, cond_false, pBinX_int, pI_gtr]
  repeat (with_reducible refine And.intro ?_ ?_; · first | trivial | omega | (intro hg; simp only [Bool.and_eq_true, Bool.or_eq_true, Bool.not_eq_true', Bool.and_eq_false_iff, Bool.or_eq_false_iff, Bool.not_eq_false', decide_eq_true_eq, decide_eq_false_iff_not, eqNil] at hg; omega) | (simp only [List.length_append, List.length_map, List.length_range, List.length_replicate, List.length_take, List.length_drop, List.length_cons, List.length_nil, List.length_set, List.length_reverse]; omega))
  apply hK; clear hK K
  refine awp_cond (b := _) rfl (fun hb1 => ?_) (fun hb1 => ?_)
  · try simp only [decide_eq_true_eq] at hb1
    -- region 2  decimals.go:102
    refine awp_rseq [2, 3] (by rfl) fun K hK => ?_
    simp (decide := true) only [ev, absV, absS, putD, Slots.put, Slots.get, if_false, true_and, ↓ap_build, ↓pop_buildL, bld27_, evP, List.map_nil]
    repeat (with_reducible refine And.intro ?_ ?_; · first | trivial | omega | (intro hg; simp only [Bool.and_eq_true, Bool.or_eq_true, Bool.not_eq_true', Bool.and_eq_false_iff, Bool.or_eq_false_iff, Bool.not_eq_false', decide_eq_true_eq, decide_eq_false_iff_not, eqNil] at hg; omega) | (simp only [List.length_append, List.length_map, List.length_range, List.length_replicate, List.length_take, List.length_drop, List.length_cons, List.length_nil, List.length_set, List.length_reverse]; omega))
    refine aOps_store (by rfl) (by rfl) (by repeat (first | exact AHeap.set_same _ _ _ | assumption | refine (AHeap.set_ne _ _ (by first | assumption | exact Ne.symm (by assumption))).trans ?_)) sz27 (by rfl) (by rfl) (by first | exact Nat.le_refl _ | decide | (simp; done) | (simp; omega)) (Nat.zero_le _) (by rfl) ?_
    simp only [AHeap.set_set, AVal.cells]
    simp (decide := true) only [aOps_nil, ev, absV, absS, putD, Slots.put, Slots.get, Slots.keep, if_true, if_false, true_and, ↓ap_assign, pop_assign, setAt, List.set_cons_zero, List.set_cons_succ, Nat.zero_add, Nat.reduceAdd]
    repeat (with_reducible refine And.intro ?_ ?_; · first | trivial | omega | (intro hg; simp only [Bool.and_eq_true, Bool.or_eq_true, Bool.not_eq_true', Bool.and_eq_false_iff, Bool.or_eq_false_iff, Bool.not_eq_false', decide_eq_true_eq, decide_eq_false_iff_not, eqNil] at hg; omega) | (simp only [List.length_append, List.length_map, List.length_range, List.length_replicate, List.length_take, List.length_drop, List.length_cons, List.length_nil, List.length_set, List.length_reverse]; omega))
    apply hK; clear hK K
    refine awp_ret ?_
    try simp only [thenA_ret]
    refine retA_ret h (by repeat (first | exact Sub.refl _ | assumption | refine Sub.trans_set ?_ (by assumption))) (?_) ?_
    · simp (decide := true) only [resPre, resV_tmp, resV_cell, Slots.get, if_true, if_false, and_true, resV_tmp, resV_cell, pLoad_agg ag27 sz27, rd_set, cellsAt, List.getD_cons_zero, List.getD_cons_succ, Nat.zero_add, Nat.reduceAdd, lv_bool, lv_int, lv_str, allLive, Bool.and_true, cellsAt, List.getD_cons_zero, List.getD_cons_succ, Nat.zero_add, Nat.reduceAdd, lv_bool, lv_int, lv_str, allLive, Bool.and_true]
    
    simp (decide := true) only [Slots.get, if_true, if_false, and_true, resOfG_two, resV_tmp, resV_cell, pLoad_agg ag27 sz27, rd_set, cellsAt, List.getD_cons_zero, List.getD_cons_succ, Nat.zero_add, Nat.reduceAdd, lv_bool, lv_int, lv_str, allLive, Bool.and_true, cellsAt, List.getD_cons_zero, List.getD_cons_succ, Nat.zero_add, Nat.reduceAdd, lv_bool, lv_int, lv_str, allLive, Bool.and_true, decA]
    rw [parseE, if_pos (by omega)]
    rfl
  · try simp only [decide_eq_false_iff_not] at hb1
    refine awp_skip ?_
    change Awp _ _ _ _ _ _ _
    -- region 3  decimals.go:104
    refine awp_rseq [0, 2, 4, 5] (by rfl) fun K hK => ?_
    simp (decide := true) only [ev, putD, Slots.put, Slots.get, if_true, if_false, true_and, ↓ap_move, pop_move]
    repeat (with_reducible refine And.intro ?_ ?_; · first | trivial | omega | (intro hg; simp only [Bool.and_eq_true, Bool.or_eq_true, Bool.not_eq_true', Bool.and_eq_false_iff, Bool.or_eq_false_iff, Bool.not_eq_false', decide_eq_true_eq, decide_eq_false_iff_not, eqNil] at hg; omega) | (simp only [List.length_append, List.length_map, List.length_range, List.length_replicate, List.length_take, List.length_drop, List.length_cons, List.length_nil, List.length_set, List.length_reverse]; omega))
    refine aOps_callV (V := .tuple [.str (Lib.trimPrefix s [45]), .bool ([45].isPrefixOf s)]) (by rfl) (by rfl) (c_cutPrefix w₀ _ s [45]) ?_
    simp (decide := true) only [aOps_nil, ev, putD, Slots.put, Slots.get, Slots.keep, if_true, if_false, true_and, ↓ap_move, pop_move, ↓ap_extract, pop_extract, pExt_tuple, List.length_cons, List.length_nil, List.getD_cons_zero, List.getD_cons_succ, ↓ap_assign, pop_assign, List.getD_cons_zero, List.getD_cons_succ, Nat.zero_add, Nat.reduceAdd]
    repeat (with_reducible refine And.intro ?_ ?_; · first | trivial | omega | (intro hg; simp only [Bool.and_eq_true, Bool.or_eq_true, Bool.not_eq_true', Bool.and_eq_false_iff, Bool.or_eq_false_iff, Bool.not_eq_false', decide_eq_true_eq, decide_eq_false_iff_not, eqNil] at hg; omega) | (simp only [List.length_append, List.length_map, List.length_range, List.length_replicate, List.length_take, List.length_drop, List.length_cons, List.length_nil, List.length_set, List.length_reverse]; omega))
    apply hK; clear hK K
    refine awp_seq ?_
    -- region 4  decimals.go:105
    refine awp_rseq [0, 2, 4, 5, 19] (by rfl) fun K hK => ?_
    simp (decide := true) only [aOps_nil, ev, putD, Slots.put, Slots.get, Slots.keep, if_true, if_false, true_and, ↓ap_move, pop_move, ↓ap_unOp, pop_unOp, pU_not]
    try simp (disch := omega) only [wrap_i64, wrap_u8]
    repeat (with_reducible refine And.intro ?_ ?_; · first | trivial | omega | (intro hg; simp only [Bool.and_eq_true, Bool.or_eq_true, Bool.not_eq_true', Bool.and_eq_false_iff, Bool.or_eq_false_iff, Bool.not_eq_false', decide_eq_true_eq, decide_eq_false_iff_not, eqNil] at hg; omega) | (simp only [List.length_append, List.length_map, List.length_range, List.length_replicate, List.length_take, List.length_drop, List.length_cons, List.length_nil, List.length_set, List.length_reverse]; omega))
    apply hK; clear hK K
    refine awp_joinT [2, 4, 5] (fun r : List UInt8 => [(2, .ptr (.own k0q0) 0), (4, .str r), (5, .bool ([45].isPrefixOf s))]) (fun r : List UInt8 => h.set k0q0 ⟨[.bool false, .str [], .int .i64 0], 0⟩) (fun r : List UInt8 => r = (if [45].isPrefixOf s = true then Lib.trimPrefix s [45] else Lib.trimPrefix s [43])) ?_ ?_
    · refine awp_cond (b := _) rfl (fun hb2 => ?_) (fun hb2 => ?_)
      · try simp only [Bool.not_eq_true'] at hb2
        -- region 5  decimals.go:106
        refine awp_r [2, 4, 5] (by rfl) ?_
        simp (decide := true) only [ev, putD, Slots.put, Slots.get, if_true, if_false, true_and, ↓ap_move, pop_move, decA]
        repeat (with_reducible refine And.intro ?_ ?_; · first | trivial | omega | (intro hg; simp only [Bool.and_eq_true, Bool.or_eq_true, Bool.not_eq_true', Bool.and_eq_false_iff, Bool.or_eq_false_iff, Bool.not_eq_false', decide_eq_true_eq, decide_eq_false_iff_not, eqNil] at hg; omega) | (simp only [List.length_append, List.length_map, List.length_range, List.length_replicate, List.length_take, List.length_drop, List.length_cons, List.length_nil, List.length_set, List.length_reverse]; omega))
        refine aOps_callV (V := .str (Lib.trimPrefix s [43])) (by rfl) (by rfl) (c_trimPrefix w₀ _ s [43]) ?_
        simp (decide := true) only [aOps_nil, ev, putD, Slots.put, Slots.get, Slots.keep, if_true, if_false, true_and, ↓ap_assign, pop_assign]
        repeat (with_reducible refine And.intro ?_ ?_; · first | trivial | omega | (intro hg; simp only [Bool.and_eq_true, Bool.or_eq_true, Bool.not_eq_true', Bool.and_eq_false_iff, Bool.or_eq_false_iff, Bool.not_eq_false', decide_eq_true_eq, decide_eq_false_iff_not, eqNil] at hg; omega) | (simp only [List.length_append, List.length_map, List.length_range, List.length_replicate, List.length_take, List.length_drop, List.length_cons, List.length_nil, List.length_set, List.length_reverse]; omega))
        try simp only [thenA_normal]
        first
        | exact ⟨_, rfl, Sub.refl _, by rw [if_neg (by rw [hb2]; decide)]⟩
        | exact ⟨_, rfl, Sub.refl _, by rw [if_pos hb2]⟩
      · try simp only [Bool.not_eq_false'] at hb2
        refine awp_skip ?_
        try simp only [thenA_normal]
        first
        | exact ⟨_, rfl, Sub.refl _, by rw [if_neg (by rw [hb2]; decide)]⟩
        | exact ⟨_, rfl, Sub.refl _, by rw [if_pos hb2]⟩
    · rintro r hr
      have hrl : r.length ≤ s.length := by rw [hr]; split <;> exact trimPrefix_len _ _
      have hcl := cutP_len r 46
      -- region 6  decimals.go:108
      refine awp_rseq [2, 5, 6, 7, 8] (by rfl) fun K hK => ?_
      simp (decide := true) only [ev, putD, Slots.put, Slots.get, if_true, if_false, true_and, ↓ap_move, pop_move]
      repeat (with_reducible refine And.intro ?_ ?_; · first | trivial | omega | (intro hg; simp only [Bool.and_eq_true, Bool.or_eq_true, Bool.not_eq_true', Bool.and_eq_false_iff, Bool.or_eq_false_iff, Bool.not_eq_false', decide_eq_true_eq, decide_eq_false_iff_not, eqNil] at hg; omega) | (simp only [List.length_append, List.length_map, List.length_range, List.length_replicate, List.length_take, List.length_drop, List.length_cons, List.length_nil, List.length_set, List.length_reverse]; omega))
      refine aOps_callV (V := .tuple [.str (cutP r 46).1, .str (cutP r 46).2.1, .bool (cutP r 46).2.2]) (by rfl) (by rfl) (c_cut1 w₀ _ r 46 (by omega)) ?_
      simp (decide := true) only [aOps_nil, ev, putD, Slots.put, Slots.get, Slots.keep, if_true, if_false, true_and, ↓ap_move, pop_move, ↓ap_extract, pop_extract, pExt_tuple, List.length_cons, List.length_nil, List.getD_cons_zero, List.getD_cons_succ, ↓ap_assign, pop_assign, List.getD_cons_zero, List.getD_cons_succ, Nat.zero_add, Nat.reduceAdd]
      repeat (with_reducible refine And.intro ?_ ?_; · first | trivial | omega | (intro hg; simp only [Bool.and_eq_true, Bool.or_eq_true, Bool.not_eq_true', Bool.and_eq_false_iff, Bool.or_eq_false_iff, Bool.not_eq_false', decide_eq_true_eq, decide_eq_false_iff_not, eqNil] at hg; omega) | (simp only [List.length_append, List.length_map, List.length_range, List.length_replicate, List.length_take, List.length_drop, List.length_cons, List.length_nil, List.length_set, List.length_reverse]; omega))
      apply hK; clear hK K
      refine awp_seq ?_
      -- region 7  decimals.go:109
      refine awp_rseq [2, 5, 6, 7, 39] (by rfl) fun K hK => ?_
      simp (decide := true) only [ev, absV, absS, putD, Slots.put, Slots.get, if_true, if_false, true_and, ↓ap_move, pop_move, ↓ag_move, agP, agQ_some, nthDst, gKnown_bool, guardB_bool_true, guardB_bool_false, implies_true, ↓ag_binOp, pop_binOp, isNilC_str, cond_false, cv_binl, cv_binr, cp_binl, cp_binr, pBinX_str, pS_eql, ↓ap_pick, pop_pick, pPick_bool, pickV_cond_l, pickV_and, isNilC_tmp, pS_add]
      repeat (with_reducible refine And.intro ?_ ?_; · first | trivial | omega | (intro hg; simp only [Bool.and_eq_true, Bool.or_eq_true, Bool.not_eq_true', Bool.and_eq_false_iff, Bool.or_eq_false_iff, Bool.not_eq_false', decide_eq_true_eq, decide_eq_false_iff_not, eqNil] at hg; omega) | (simp only [List.length_append, List.length_map, List.length_range, List.length_replicate, List.length_take, List.length_drop, List.length_cons, List.length_nil, List.length_set, List.length_reverse]; omega))
      first
      | (refine aOps_yes (by rfl) ?_; refine aOps_callV (V := .bool (numB ((cutP r 46).1 ++ (cutP r 46).2.1))) (by rfl) (by rfl) (c_number w₀ _ _ (by rw [List.length_append]; omega)) ?_)
      | (refine aOps_gcall (V := .bool (numB ((cutP r 46).1 ++ (cutP r 46).2.1))) (f := _) (cap := _) (xs := _) rfl (fun hg => ⟨rfl, ?_⟩) (fun hg => c_number w₀ _ _ (by rw [List.length_append]; omega)) ?_; · (simp (decide := true) only [gv, nthDst, Slots.get, if_true, if_false, guardB_bool_false] at hg; simp (decide := true) only [evs, ev, Slots.get, if_true, if_false, hg, condV_true, List.append_nil, List.map_cons, List.map_nil] <;> try rfl))
      simp (decide := true) only [aOps_nil, ev, absV, absS, putD, Slots.put, Slots.get, Slots.keep, if_true, if_false, true_and, gv, nthDst, guardB_bool_false, ↓ag_unOp, pop_unOp, agP, agQ_some, gKnown_bool, implies_true, pU_not, cv_un, cp_un, ↓ap_pick, pop_pick, pPick_bool, pickV_cond_r, pickV_or]
      try simp (disch := omega) only [wrap_i64, wrap_u8]
      repeat (with_reducible refine And.intro ?_ ?_; · first | trivial | omega | (intro hg; simp only [Bool.and_eq_true, Bool.or_eq_true, Bool.not_eq_true', Bool.and_eq_false_iff, Bool.or_eq_false_iff, Bool.not_eq_false', decide_eq_true_eq, decide_eq_false_iff_not, eqNil] at hg; omega) | (simp only [List.length_append, List.length_map, List.length_range, List.length_replicate, List.length_take, List.length_drop, List.length_cons, List.length_nil, List.length_set, List.length_reverse]; omega))
      apply hK; clear hK K
      refine awp_cond (b := _) rfl (fun hb3 => ?_) (fun hb3 => ?_)
      · try simp only [decide_eq_true_eq, Bool.not_eq_true', Bool.and_eq_true, Bool.or_eq_true] at hb3
        -- region 8  decimals.go:110
        refine awp_rseq [2, 3] (by rfl) fun K hK => ?_
        simp (decide := true) only [ev, absV, absS, putD, Slots.put, Slots.get, if_false, true_and, ↓ap_build, ↓pop_buildL, bld27_, evP, List.map_nil]
        repeat (with_reducible refine And.intro ?_ ?_; · first | trivial | omega | (intro hg; simp only [Bool.and_eq_true, Bool.or_eq_true, Bool.not_eq_true', Bool.and_eq_false_iff, Bool.or_eq_false_iff, Bool.not_eq_false', decide_eq_true_eq, decide_eq_false_iff_not, eqNil] at hg; omega) | (simp only [List.length_append, List.length_map, List.length_range, List.length_replicate, List.length_take, List.length_drop, List.length_cons, List.length_nil, List.length_set, List.length_reverse]; omega))
        refine aOps_store (by rfl) (by rfl) (by repeat (first | exact AHeap.set_same _ _ _ | assumption | refine (AHeap.set_ne _ _ (by first | assumption | exact Ne.symm (by assumption))).trans ?_)) sz27 (by rfl) (by rfl) (by first | exact Nat.le_refl _ | decide | (simp; done) | (simp; omega)) (Nat.zero_le _) (by rfl) ?_
        simp only [AHeap.set_set, AVal.cells]
        simp (decide := true) only [aOps_nil, ev, absV, absS, putD, Slots.put, Slots.get, Slots.keep, if_true, if_false, true_and, ↓ap_assign, pop_assign, setAt, List.set_cons_zero, List.set_cons_succ, Nat.zero_add, Nat.reduceAdd]
        repeat (with_reducible refine And.intro ?_ ?_; · first | trivial | omega | (intro hg; simp only [Bool.and_eq_true, Bool.or_eq_true, Bool.not_eq_true', Bool.and_eq_false_iff, Bool.or_eq_false_iff, Bool.not_eq_false', decide_eq_true_eq, decide_eq_false_iff_not, eqNil] at hg; omega) | (simp only [List.length_append, List.length_map, List.length_range, List.length_replicate, List.length_take, List.length_drop, List.length_cons, List.length_nil, List.length_set, List.length_reverse]; omega))
        apply hK; clear hK K
        refine awp_ret ?_
        try simp only [thenA_ret]
        refine retA_ret h (by repeat (first | exact Sub.refl _ | assumption | refine Sub.trans_set ?_ (by assumption))) (?_) ?_
        · simp (decide := true) only [resPre, resV_tmp, resV_cell, Slots.get, if_true, if_false, and_true, resV_tmp, resV_cell, pLoad_agg ag27 sz27, rd_set, cellsAt, List.getD_cons_zero, List.getD_cons_succ, Nat.zero_add, Nat.reduceAdd, lv_bool, lv_int, lv_str, allLive, Bool.and_true, cellsAt, List.getD_cons_zero, List.getD_cons_succ, Nat.zero_add, Nat.reduceAdd, lv_bool, lv_int, lv_str, allLive, Bool.and_true]
        
        simp (decide := true) only [Slots.get, if_true, if_false, and_true, resOfG_two, resV_tmp, resV_cell, pLoad_agg ag27 sz27, rd_set, cellsAt, List.getD_cons_zero, List.getD_cons_succ, Nat.zero_add, Nat.reduceAdd, lv_bool, lv_int, lv_str, allLive, Bool.and_true, cellsAt, List.getD_cons_zero, List.getD_cons_succ, Nat.zero_add, Nat.reduceAdd, lv_bool, lv_int, lv_str, allLive, Bool.and_true, decA]
        rw [parseE, if_neg (by omega)]
        simp only [← hr]
        rw [if_pos hb3]
        rfl
      · try simp only [decide_eq_false_iff_not, Bool.not_eq_false', Bool.and_eq_false_iff, Bool.or_eq_false_iff] at hb3
        have hb3' : ¬(((cutP r 46).2.2 = true ∧ (cutP r 46).2.1 = []) ∨ numB ((cutP r 46).1 ++ (cutP r 46).2.1) = false) := by
          rintro (⟨e1, e2⟩ | e)
          · rcases hb3.1 with q | q
            · rw [q] at e1; cases e1
            · exact q e2
          · rw [hb3.2] at e; cases e
        have hnum : numB ((cutP r 46).1 ++ (cutP r 46).2.1) = true := by
          cases hn : numB ((cutP r 46).1 ++ (cutP r 46).2.1) with
          | true => rfl
          | false => exact absurd (.inr hn) hb3'
        refine awp_skip ?_
        change Awp _ _ _ _ _ _ _
        -- region 9  decimals.go:112
        refine awp_rseq [2, 3] (by rfl) fun K hK => ?_
        simp (decide := true) only [ev, putD, Slots.put, Slots.get, if_true, if_false, true_and, ↓ap_move, pop_move, ↓ap_binOp, pop_binOp, isNilC_tmp, cond_false, pBinX_str, pS_add, ↓ap_len, pop_len, pLen_str Tryz.underlying9]
        repeat (with_reducible refine And.intro ?_ ?_; · first | trivial | omega | (intro hg; simp only [Bool.and_eq_true, Bool.or_eq_true, Bool.not_eq_true', Bool.and_eq_false_iff, Bool.or_eq_false_iff, Bool.not_eq_false', decide_eq_true_eq, decide_eq_false_iff_not, eqNil] at hg; omega) | (simp only [List.length_append, List.length_map, List.length_range, List.length_replicate, List.length_take, List.length_drop, List.length_cons, List.length_nil, List.length_set, List.length_reverse]; omega))
        refine aOps_callV (V := .tuple [decA (normE ([45].isPrefixOf s) (natOf ((cutP r 46).1 ++ (cutP r 46).2.1)) (cutP r 46).2.1.length).1, .int .i64 (normE ([45].isPrefixOf s) (natOf ((cutP r 46).1 ++ (cutP r 46).2.1)) (cutP r 46).2.1.length).2]) (by rfl) (by rfl) (c_normal w₀ _ _ _ _ (numB_all hnum) (by rw [List.length_append]; omega) (by omega) (by omega)) ?_
        simp (decide := true) only [ev, putD, Slots.put, Slots.get, if_true, if_false, true_and, ↓ap_extract, pop_extract, pExt_tuple, List.length_cons, List.length_nil, List.getD_cons_zero, List.getD_cons_succ, List.getD_cons_zero, List.getD_cons_succ, Nat.zero_add, Nat.reduceAdd, decA]
        repeat (with_reducible refine And.intro ?_ ?_; · first | trivial | omega | (intro hg; simp only [Bool.and_eq_true, Bool.or_eq_true, Bool.not_eq_true', Bool.and_eq_false_iff, Bool.or_eq_false_iff, Bool.not_eq_false', decide_eq_true_eq, decide_eq_false_iff_not, eqNil] at hg; omega) | (simp only [List.length_append, List.length_map, List.length_range, List.length_replicate, List.length_take, List.length_drop, List.length_cons, List.length_nil, List.length_set, List.length_reverse]; omega))
        refine aOps_store (by rfl) (by rfl) (by repeat (first | exact AHeap.set_same _ _ _ | assumption | refine (AHeap.set_ne _ _ (by first | assumption | exact Ne.symm (by assumption))).trans ?_)) sz27 (by rfl) (by rfl) (by first | exact Nat.le_refl _ | decide | (simp; done) | (simp; omega)) (Nat.zero_le _) (by rfl) ?_
        simp only [AHeap.set_set, AVal.cells]
        simp (decide := true) only [aOps_nil, ev, putD, Slots.put, Slots.get, Slots.keep, if_true, if_false, true_and, ↓ap_assign, pop_assign, setAt, List.set_cons_zero, List.set_cons_succ, Nat.zero_add, Nat.reduceAdd]
        repeat (with_reducible refine And.intro ?_ ?_; · first | trivial | omega | (intro hg; simp only [Bool.and_eq_true, Bool.or_eq_true, Bool.not_eq_true', Bool.and_eq_false_iff, Bool.or_eq_false_iff, Bool.not_eq_false', decide_eq_true_eq, decide_eq_false_iff_not, eqNil] at hg; omega) | (simp only [List.length_append, List.length_map, List.length_range, List.length_replicate, List.length_take, List.length_drop, List.length_cons, List.length_nil, List.length_set, List.length_reverse]; omega))
        apply hK; clear hK K
        refine awp_ret ?_
        try simp only [thenA_ret, inBlockA_ret]
        refine retA_ret h (by repeat (first | exact Sub.refl _ | assumption | refine Sub.trans_set ?_ (by assumption))) (?_) ?_
        · simp (decide := true) only [resPre, resV_tmp, resV_cell, Slots.get, if_true, if_false, and_true, resV_tmp, resV_cell, pLoad_agg ag27 sz27, rd_set, cellsAt, List.getD_cons_zero, List.getD_cons_succ, Nat.zero_add, Nat.reduceAdd, lv_bool, lv_int, lv_str, allLive, Bool.and_true, cellsAt, List.getD_cons_zero, List.getD_cons_succ, Nat.zero_add, Nat.reduceAdd, lv_bool, lv_int, lv_str, allLive, Bool.and_true]
        
        simp (decide := true) only [Slots.get, if_true, if_false, and_true, resOfG_two, resV_tmp, resV_cell, pLoad_agg ag27 sz27, rd_set, cellsAt, List.getD_cons_zero, List.getD_cons_succ, Nat.zero_add, Nat.reduceAdd, lv_bool, lv_int, lv_str, allLive, Bool.and_true, cellsAt, List.getD_cons_zero, List.getD_cons_succ, Nat.zero_add, Nat.reduceAdd, lv_bool, lv_int, lv_str, allLive, Bool.and_true, decA]
        rw [parseE, if_neg (by omega)]
        simp only [← hr]
        rw [if_neg hb3']

/-! ### Text -/
def textE (d : D) : List UInt8 :=
  if checkE d ≠ 0 then [] else
  let s := padL d.dig (d.scale + 1)
  let t := if 0 < d.scale then s.take ((s.length : Int) - d.scale).toNat ++ [46] ++ s.drop ((s.length : Int) - d.scale).toNat else s
  if d.neg = true then [45] ++ t else t
theorem c_Text (w₀ : World) (h : AHeap) (d : D) (hl : d.dig.length ≤ 9223372036854775807) :
    ACall Tryz.prog w₀ 16 [decA d] h (fun v h' => v = .str (textE d) ∧ h' = h) := by
  refine acall_intro (n := 35) (rs := [.tmp 2]) Tryz.func16 rfl rfl rfl rfl (Nat.le_of_ble_eq_true rfl) ?_
  simp only [initSlots]
  -- region 0  decimals.go:121
  refine awp_rseq [1] (by rfl) fun K hK => ?_
  refine aOps_box (by rfl) (by rfl) (by rfl) fun k0q0 hk0q0 => ?_
  try have hf_0q0 : h k0q0 = none := by first | assumption | (simp only [AHeap.set_none] at hk0q0; simp only [hk0q0])
  skip
  simp (decide := true) only [aOps_nil, ev, absV, absS, putD, Slots.put, Slots.get, Slots.keep, if_true, if_false, true_and, ↓ap_assign, pop_assign, AVal.cells, decA]
  repeat (with_reducible refine And.intro ?_ ?_; · first | trivial | omega | (intro hg; simp only [Bool.and_eq_true, Bool.or_eq_true, Bool.not_eq_true', Bool.and_eq_false_iff, Bool.or_eq_false_iff, Bool.not_eq_false', decide_eq_true_eq, decide_eq_false_iff_not, eqNil] at hg; omega) | (simp only [List.length_append, List.length_map, List.length_range, List.length_replicate, List.length_take, List.length_drop, List.length_cons, List.length_nil, List.length_set, List.length_reverse]; omega))
  apply hK; clear hK K
  refine awp_seq ?_
  -- region 1  decimals.go:122
  refine awp_rseq [1, 7] (by rfl) fun K hK => ?_
  simp (decide := true) only [ev, putD, Slots.put, Slots.get, if_true, if_false, true_and, ↓ap_loadL, apL_mk, pLoad_agg ag27 sz27, rd_any, cellsAt, List.getD_cons_zero, List.getD_cons_succ, Nat.zero_add, Nat.reduceAdd, lv_bool, lv_int, lv_str, allLive, Bool.and_true]
  repeat (with_reducible refine And.intro ?_ ?_; · first | trivial | omega | (intro hg; simp only [Bool.and_eq_true, Bool.or_eq_true, Bool.not_eq_true', Bool.and_eq_false_iff, Bool.or_eq_false_iff, Bool.not_eq_false', decide_eq_true_eq, decide_eq_false_iff_not, eqNil] at hg; omega) | (simp only [List.length_append, List.length_map, List.length_range, List.length_replicate, List.length_take, List.length_drop, List.length_cons, List.length_nil, List.length_set, List.length_reverse]; omega))
  refine aOps_callV (V := .int .i64 (checkE d)) (by rfl) (by rfl) (c_Check w₀ _ d hl) ?_
  simp (decide := true) only [aOps_nil, ev, absV, absS, putD, Slots.put, Slots.get, Slots.keep, if_true, if_false, true_and, ↓ap_binOp, pop_binOp, isNilC_int, cond_false, pBinX_int, pI_neq]
  repeat (with_reducible refine And.intro ?_ ?_; · first | trivial | omega | (intro hg; simp only [Bool.and_eq_true, Bool.or_eq_true, Bool.not_eq_true', Bool.and_eq_false_iff, Bool.or_eq_false_iff, Bool.not_eq_false', decide_eq_true_eq, decide_eq_false_iff_not, eqNil] at hg; omega) | (simp only [List.length_append, List.length_map, List.length_range, List.length_replicate, List.length_take, List.length_drop, List.length_cons, List.length_nil, List.length_set, List.length_reverse]; omega))
  apply hK; clear hK K
  refine awp_cond (b := _) rfl (fun hb1 => ?_) (fun hb1 => ?_)
  · try simp only [decide_eq_false_iff_not, Bool.not_eq_true'] at hb1
    -- region 2  decimals.go:123
    refine awp_rseq [2] (by rfl) fun K hK => ?_
    simp (decide := true) only [aOps_nil, ev, absV, absS, putD, Slots.put, Slots.keep, if_true, if_false, true_and, ↓ap_assign, pop_assign]
    repeat (with_reducible refine And.intro ?_ ?_; · first | trivial | omega | (intro hg; simp only [Bool.and_eq_true, Bool.or_eq_true, Bool.not_eq_true', Bool.and_eq_false_iff, Bool.or_eq_false_iff, Bool.not_eq_false', decide_eq_true_eq, decide_eq_false_iff_not, eqNil] at hg; omega) | (simp only [List.length_append, List.length_map, List.length_range, List.length_replicate, List.length_take, List.length_drop, List.length_cons, List.length_nil, List.length_set, List.length_reverse]; omega))
    apply hK; clear hK K
    refine awp_ret ?_
    try simp only [thenA_ret]
    refine retA_ret h (by repeat (first | exact Sub.refl _ | assumption | refine Sub.trans_set ?_ (by assumption))) (resPre_tmp (resPre_nil)) ?_
    simp (decide := true) only [Slots.get, if_true, and_true, resOf_one]
    rw [textE, if_pos hb1]
  · try simp only [decide_eq_true_eq, Bool.not_eq_false'] at hb1
    have hv : checkE d = 0 := by simpa using hb1
    obtain ⟨sd, dd, nd, _⟩ := Small_of_check hv
    have ha1 := sd.l
    have ha2 := sd.s0
    have ha3 := sd.s1
    obtain ⟨s, hs⟩ : ∃ s, s = padL d.dig (d.scale + 1) := ⟨_, rfl⟩
    have hsl : (s.length : Int) ≤ 200 ∧ d.scale < s.length := by rw [hs, padL]; simp; omega
    refine awp_skip ?_
    change Awp _ _ _ _ _ _ _
    -- region 3  decimals.go:125
    refine awp_rseq [1, 3] (by rfl) fun K hK => ?_
    simp (decide := true) only [ev, absV, absS, putD, Slots.put, Slots.get, if_true, if_false, true_and, ↓ap_fieldAddr, pop_fieldAddr, fa27_1, ↓ap_loadL, apL_mk, pLoad_one ag9, fa27_2, pLoad_one ag3, ↓ap_binOp, pop_binOp, isNilC_int, cond_false, pBinX_int, pI_add, rd_any, List.getD_cons_zero, List.getD_cons_succ, Nat.zero_add, lv_int, lv_str]
    try simp (disch := omega) only [wrap_i64]
    repeat (with_reducible refine And.intro ?_ ?_; · first | trivial | omega | (intro hg; simp only [Bool.and_eq_true, Bool.or_eq_true, Bool.not_eq_true', Bool.and_eq_false_iff, Bool.or_eq_false_iff, Bool.not_eq_false', decide_eq_true_eq, decide_eq_false_iff_not, eqNil] at hg; omega) | (simp only [List.length_append, List.length_map, List.length_range, List.length_replicate, List.length_take, List.length_drop, List.length_cons, List.length_nil, List.length_set, List.length_reverse]; omega))
    refine aOps_callV (V := .str s) (by rfl) (by rfl) ((c_padded w₀ _ d.dig (d.scale + 1) (by omega) (by omega) (by omega)).val (by rw [hs])) ?_
    simp (decide := true) only [aOps_nil, ev, putD, Slots.put, Slots.get, Slots.keep, if_true, if_false, true_and, ↓ap_assign, pop_assign]
    repeat (with_reducible refine And.intro ?_ ?_; · first | trivial | omega | (intro hg; simp only [Bool.and_eq_true, Bool.or_eq_true, Bool.not_eq_true', Bool.and_eq_false_iff, Bool.or_eq_false_iff, Bool.not_eq_false', decide_eq_true_eq, decide_eq_false_iff_not, eqNil] at hg; omega) | (simp only [List.length_append, List.length_map, List.length_range, List.length_replicate, List.length_take, List.length_drop, List.length_cons, List.length_nil, List.length_set, List.length_reverse]; omega))
    apply hK; clear hK K
    refine awp_seq ?_
    -- region 4  decimals.go:126
    refine awp_rseq [1, 3, 4] (by rfl) fun K hK => ?_
    simp (decide := true) only [aOps_nil, ev, putD, Slots.put, Slots.get, Slots.keep, if_true, if_false, true_and, ↓ap_move, pop_move, ↓ap_len, pop_len, pLen_str Tryz.underlying9, ↓ap_fieldAddr, pop_fieldAddr, fa27_2, ↓ap_loadL, apL_mk, pLoad_one ag3, ↓ap_binOp, pop_binOp, isNilC_tmp, cond_false, pBinX_int, pI_sub, ↓ap_assign, pop_assign, rd_any, List.getD_cons_zero, List.getD_cons_succ, Nat.zero_add, lv_int]
    try simp (disch := omega) only [wrap_i64]
    repeat (with_reducible refine And.intro ?_ ?_; · first | trivial | omega | (intro hg; simp only [Bool.and_eq_true, Bool.or_eq_true, Bool.not_eq_true', Bool.and_eq_false_iff, Bool.or_eq_false_iff, Bool.not_eq_false', decide_eq_true_eq, decide_eq_false_iff_not, eqNil] at hg; omega) | (simp only [List.length_append, List.length_map, List.length_range, List.length_replicate, List.length_take, List.length_drop, List.length_cons, List.length_nil, List.length_set, List.length_reverse]; omega))
    apply hK; clear hK K
    -- region 5  decimals.go:126
    refine awp_rseq [1, 3, 4, 21] (by rfl) fun K hK => ?_
    simp (decide := true) only [aOps_nil, ev, absV, absS, putD, Slots.put, Slots.get, Slots.keep, if_true, if_false, true_and, ↓ap_fieldAddr, pop_fieldAddr, fa27_2, ↓ap_loadL, apL_mk, pLoad_one ag3, ↓ap_binOp, pop_binOp, isNilC_int, cond_false, pBinX_int, pI_gtr, rd_any, List.getD_cons_zero, List.getD_cons_succ, Nat.zero_add, lv_int]
    repeat (with_reducible refine And.intro ?_ ?_; · first | trivial | omega | (intro hg; simp only [Bool.and_eq_true, Bool.or_eq_true, Bool.not_eq_true', Bool.and_eq_false_iff, Bool.or_eq_false_iff, Bool.not_eq_false', decide_eq_true_eq, decide_eq_false_iff_not, eqNil] at hg; omega) | (simp only [List.length_append, List.length_map, List.length_range, List.length_replicate, List.length_take, List.length_drop, List.length_cons, List.length_nil, List.length_set, List.length_reverse]; omega))
    apply hK; clear hK K
    refine awp_joinT [1, 3] (fun t : List UInt8 => [(1, .ptr (.own k0q0) 0), (3, .str t)]) (fun t : List UInt8 => h.set k0q0 ⟨[.bool d.neg, .str d.dig, .int .i64 d.scale], 0⟩) (fun t : List UInt8 => t = (if 0 < d.scale then s.take ((s.length : Int) - d.scale).toNat ++ [46] ++ s.drop ((s.length : Int) - d.scale).toNat else s)) ?_ ?_
    · refine awp_cond (b := _) rfl (fun hb2 => ?_) (fun hb2 => ?_)
      · try simp only [decide_eq_true_eq] at hb2
        -- region 6  decimals.go:127
        refine awp_draw_all mixed (by kernel_rfl) (by rfl) (by rfl) ?_
        simp (decide := true) only [aOps_nil, ev, absV, absS, putD, Slots.put, Slots.get, if_true, if_false, true_and, ↓ap_move, pop_move, ↓ap_slice, pop_slice, evO, pSliceS_0i Tryz.underlying9, pSliceS_i0 Tryz.underlying9, pSliceS, bndA_none, bndA_int, ↓ap_binOp, pop_binOp, isNilC_str, cond_false, pBinX_str, pS_add, isNilC_tmp, ↓ap_assign, pop_assign]
        repeat (with_reducible refine And.intro ?_ ?_; · first | trivial | omega | (intro hg; simp only [Bool.and_eq_true, Bool.or_eq_true, Bool.not_eq_true', Bool.and_eq_false_iff, Bool.or_eq_false_iff, Bool.not_eq_false', decide_eq_true_eq, decide_eq_false_iff_not, eqNil] at hg; omega) | (simp only [List.length_append, List.length_take, List.length_drop, List.length_cons, List.length_nil]; omega))
        try simp only [thenA_normal]
        first
        | (refine ⟨_, rfl, Sub.refl _, ?_⟩
           rw [if_pos hb2]
           simp only [Int.toNat_natCast, Nat.sub_zero, List.drop_zero]
           rw [List.take_of_length_le (l := List.drop _ s) (by rw [List.length_drop]; omega)])
        | (refine ⟨_, rfl, Sub.refl _, ?_⟩
           rw [if_neg hb2])
      · try simp only [decide_eq_false_iff_not] at hb2
        refine awp_skip ?_
        try simp only [thenA_normal]
        first
        | (refine ⟨_, rfl, Sub.refl _, ?_⟩
           rw [if_pos hb2]
           simp only [Int.toNat_natCast, Nat.sub_zero, List.drop_zero]
           rw [List.take_of_length_le (l := List.drop _ s) (by rw [List.length_drop]; omega)])
        | (refine ⟨_, rfl, Sub.refl _, ?_⟩
           rw [if_neg hb2])
    · rintro t ht
      have htl : t.length ≤ 500 := by
        rw [ht]
        split
        · simp only [List.length_append, List.length_take, List.length_drop, List.length_cons, List.length_nil]; omega
        · omega
      refine awp_seq ?_
      -- region 7  decimals.go:129
      refine awp_rseq [3, 31] (by rfl) fun K hK => ?_
      simp (decide := true) only [aOps_nil, ev, putD, Slots.put, Slots.get, Slots.keep, if_true, if_false, true_and, ↓ap_fieldAddr, pop_fieldAddr, fa27_0, ↓ap_loadL, apL_mk, pLoad_one ag4, rd_any, List.getD_cons_zero, Nat.zero_add, lv_bool]
      repeat (with_reducible refine And.intro ?_ ?_; · first | trivial | omega | (intro hg; simp only [Bool.and_eq_true, Bool.or_eq_true, Bool.not_eq_true', Bool.and_eq_false_iff, Bool.or_eq_false_iff, Bool.not_eq_false', decide_eq_true_eq, decide_eq_false_iff_not, eqNil] at hg; omega) | (simp only [List.length_append, List.length_map, List.length_range, List.length_replicate, List.length_take, List.length_drop, List.length_cons, List.length_nil, List.length_set, List.length_reverse]; omega))
      apply hK; clear hK K
      refine awp_cond (b := _) rfl (fun hb3 => ?_) (fun hb3 => ?_)
      · try simp only [decide_eq_true_eq, decide_eq_false_iff_not, Bool.not_eq_true', Bool.not_eq_false', Bool.and_eq_true, Bool.and_eq_false_iff, Bool.or_eq_true, Bool.or_eq_false_iff, Bool.true_eq, Bool.false_eq, reduceCtorEq] at hb3
        -- region 8  decimals.go:130
        refine awp_r [3] (by rfl) ?_
        simp (decide := true) only [aOps_nil, ev, absV, absS, putD, Slots.put, Slots.get, Slots.keep, if_true, if_false, true_and, ↓ap_move, pop_move, ↓ap_binOp, pop_binOp, isNilC_tmp, cond_false, pBinX_str, pS_add, ↓ap_assign, pop_assign]
        repeat (with_reducible refine And.intro ?_ ?_; · first | trivial | omega | (intro hg; simp only [Bool.and_eq_true, Bool.or_eq_true, Bool.not_eq_true', Bool.and_eq_false_iff, Bool.or_eq_false_iff, Bool.not_eq_false', decide_eq_true_eq, decide_eq_false_iff_not, eqNil] at hg; omega) | (simp only [List.length_cons, List.length_nil]; omega))
        change Awp _ _ _ _ _ _ _
        -- region 9  decimals.go:132
        refine awp_rseq [2] (by rfl) fun K hK => ?_
        simp (decide := true) only [aOps_nil, ev, putD, Slots.put, Slots.get, Slots.keep, if_true, if_false, true_and, ↓ap_move, pop_move, ↓ap_assign, pop_assign]
        repeat (with_reducible refine And.intro ?_ ?_; · first | trivial | omega | (intro hg; simp only [Bool.and_eq_true, Bool.or_eq_true, Bool.not_eq_true', Bool.and_eq_false_iff, Bool.or_eq_false_iff, Bool.not_eq_false', decide_eq_true_eq, decide_eq_false_iff_not, eqNil] at hg; omega) | (simp only [List.length_append, List.length_map, List.length_range, List.length_replicate, List.length_take, List.length_drop, List.length_cons, List.length_nil, List.length_set, List.length_reverse]; omega))
        apply hK; clear hK K
        refine awp_ret ?_
        try simp only [thenA_ret, inBlockA_ret]
        refine retA_ret h (by repeat (first | exact Sub.refl _ | assumption | refine Sub.trans_set ?_ (by assumption))) (resPre_tmp (resPre_nil)) ?_
        simp (decide := true) only [Slots.get, if_true, and_true, resOf_one]
        rw [textE, if_neg (fun e => e hv)]
        simp only [← hs, ← ht]
        rw [if_pos hb3]
      · try simp only [decide_eq_true_eq, decide_eq_false_iff_not, Bool.not_eq_true', Bool.not_eq_false', Bool.and_eq_true, Bool.and_eq_false_iff, Bool.or_eq_true, Bool.or_eq_false_iff, Bool.true_eq, Bool.false_eq, reduceCtorEq] at hb3
        refine awp_skip ?_
        change Awp _ _ _ _ _ _ _
        -- region 9  decimals.go:132
        refine awp_rseq [2] (by rfl) fun K hK => ?_
        simp (decide := true) only [aOps_nil, ev, putD, Slots.put, Slots.get, Slots.keep, if_true, if_false, true_and, ↓ap_move, pop_move, ↓ap_assign, pop_assign]
        repeat (with_reducible refine And.intro ?_ ?_; · first | trivial | omega | (intro hg; simp only [Bool.and_eq_true, Bool.or_eq_true, Bool.not_eq_true', Bool.and_eq_false_iff, Bool.or_eq_false_iff, Bool.not_eq_false', decide_eq_true_eq, decide_eq_false_iff_not, eqNil] at hg; omega) | (simp only [List.length_append, List.length_map, List.length_range, List.length_replicate, List.length_take, List.length_drop, List.length_cons, List.length_nil, List.length_set, List.length_reverse]; omega))
        apply hK; clear hK K
        refine awp_ret ?_
        try simp only [thenA_ret, inBlockA_ret]
        refine retA_ret h (by repeat (first | exact Sub.refl _ | assumption | refine Sub.trans_set ?_ (by assumption))) (resPre_tmp (resPre_nil)) ?_
        simp (decide := true) only [Slots.get, if_true, and_true, resOf_one]
        rw [textE, if_neg (fun e => e hv)]
        simp only [← hs, ← ht]
        rw [if_neg (by rw [hb3]; decide)]

/-! ### ToInt -/
/-- The integer that digits with a sign spell, if an int64 holds it. -/
def intV (neg : Bool) (n : Nat) : Int := if neg = true then -(n : Int) else n
def intOk (neg : Bool) (n : Nat) : Bool := decide (-9223372036854775808 ≤ intV neg n) && decide (intV neg n ≤ 9223372036854775807)
theorem parseUint_dig : ∀ (l : List UInt8) (acc : Nat), l.all dg = true → acc ≤ 18446744073709551615 →
    Lib.parseUintM 18446744073709551615 acc l = if acc * 10 ^ l.length + natOf l ≤ 18446744073709551615 then .ok (acc * 10 ^ l.length + natOf l) else .range
  | [], acc, _, ha => by
    simp only [Lib.parseUintM, List.length_nil, Nat.pow_zero, Nat.mul_one, natOf_nil, Nat.add_zero]
    rw [if_pos ha]
  | c :: r, acc, hl, ha => by
    rw [List.all_cons, Bool.and_eq_true] at hl
    have hc := (dg_iff c).1 hl.1
    have hp : 0 < 10 ^ r.length := Nat.pow_pos (by omega)
    have hv : natOf (c :: r) = (c.toNat - 48) * 10 ^ r.length + natOf r := natOf_cons c r
    have ht : acc * 10 ^ (c :: r).length + natOf (c :: r) = (acc * 10 + (c.toNat - 48)) * 10 ^ r.length + natOf r := by
      rw [hv, List.length_cons, Nat.pow_succ, Nat.add_mul, Nat.mul_comm (10 ^ r.length) 10, Nat.mul_assoc]
      omega
    rw [Lib.parseUintM, if_pos hc, ht]
    have hbig : ∀ m, 18446744073709551615 < m → ¬ m * 10 ^ r.length + natOf r ≤ 18446744073709551615 := fun m hm hle => by
      have := Nat.le_mul_of_pos_right m hp
      omega
    split
    · rw [if_neg (hbig _ (by omega))]
    · split
      · rw [if_neg (hbig _ (by omega))]
      · exact parseUint_dig r _ hl.2 (by omega)
theorem parseInt_dig (neg : Bool) {l : List UInt8} (hl : l.all dg = true) (hne : l ≠ []) :
    Lib.parseIntB 64 (if neg = true then 45 :: l else l) = if intOk neg (natOf l) = true then .ok (intV neg (natOf l)) else .range := by
  have hu : Lib.parseUintB 64 l = if natOf l ≤ 18446744073709551615 then .ok (natOf l) else .range := by
    unfold Lib.parseUintB
    rw [if_neg hne]
    have := parseUint_dig l 0 hl (by omega)
    simpa using this
  cases neg with
  | true =>
    simp only [if_true]
    unfold Lib.parseIntB
    simp only [show (45 : UInt8).toNat = 45 from rfl, or_true, if_true, hu]
    unfold intOk intV
    by_cases h1 : natOf l ≤ 18446744073709551615
    · rw [if_pos h1]
      simp only [not_true_eq_false, false_and, if_false, true_and, if_true]
      by_cases h2 : 9223372036854775808 < natOf l
      · rw [if_pos (show 2 ^ (64 - 1) < natOf l from h2), if_neg (by simp; omega)]
      · rw [if_neg (show ¬2 ^ (64 - 1) < natOf l from h2), if_pos (by simp; omega)]
    · rw [if_neg h1, if_neg (by simp; omega)]
  | false =>
    simp only [Bool.false_eq_true, if_false]
    cases l with
    | nil => exact absurd rfl hne
    | cons c r =>
      have hc := (dg_iff c).1 (by rw [List.all_cons, Bool.and_eq_true] at hl; exact hl.1)
      unfold Lib.parseIntB
      have h43 : ¬c.toNat = 43 := by omega
      have h45 : ¬c.toNat = 45 := by omega
      simp only [h43, h45, or_self, if_false, hu]
      unfold intOk intV
      by_cases h1 : natOf (c :: r) ≤ 18446744073709551615
      · rw [if_pos h1]
        simp only [not_false_eq_true, true_and, false_and, if_false, Bool.false_eq_true]
        by_cases h2 : 9223372036854775808 ≤ natOf (c :: r)
        · rw [if_pos (show 2 ^ (64 - 1) ≤ natOf (c :: r) from h2), if_neg (by simp; omega)]
        · rw [if_neg (show ¬2 ^ (64 - 1) ≤ natOf (c :: r) from h2), if_pos (by simp; omega)]
      · rw [if_neg h1, if_neg (by simp; omega)]
/-- What strconv's errors hold. -/
structure Errs (w : World) : Prop where
  rng : ∃ ev, w.cell? ⟨3, 0, none⟩ = some ev ∧ (ev = .nilIface ∨ ∃ te pe, ev = .iface te pe)
def errT : TypeId := 130
def errA (ok : Bool) : AVal := if ok = true then .nilIface else .iface errT .dead
theorem pIfNil_errA (ok : Bool) : pIfNil Tryz.prog .neq 82 (errA ok) = ⟨True, .bool (!ok)⟩ := by
  cases ok with
  | true => exact pIfNil_ne Tryz.underlying82
  | false => exact pIfNil_nei Tryz.underlying82 _ _
theorem c_ParseInt (w₀ : World) (he : Errs w₀) (h : AHeap) (neg : Bool) (l : List UInt8) (hl : l.all dg = true) (hne : l ≠ []) (hlen : l.length ≤ 1000000) :
    ACall Tryz.prog w₀ 59 [.str (if neg = true then 45 :: l else l), .int .i64 10, .int .i64 64] h (fun v h' => (∃ n, v = .tuple [.int .i64 n, errA (intOk neg (natOf l))] ∧ (intOk neg (natOf l) = true → n = intV neg (natOf l))) ∧ h' = h) := by
  intro φ vals w hr hvs
  have hvals : vals = [.string ⟨⟨if neg = true then 45 :: l else l⟩⟩, .int .i64 10, .int .i64 64] := by
    simp only [VRs, VR] at hvs
    obtain ⟨_, _, rfl, rfl, _, _, rfl, rfl, _, _, rfl, rfl, rfl⟩ := hvs
    rfl
  subst hvals
  have hp := parseInt_dig neg hl hne
  have hsz : (⟨⟨if neg = true then 45 :: l else l⟩⟩ : ByteArray).size ≤ 2000000 := by
    show (if neg = true then 45 :: l else l).length ≤ _
    split
    · rw [List.length_cons]; omega
    · omega
  refine .inl ⟨_, Tryz.func59, rfl, rfl, ?_⟩
  cases ho : intOk neg (natOf l) with
  | true =>
    have hp := hp.trans (show _ = Lib.NumEnd.ok (intV neg (natOf l)) by rw [ho]; rfl)
    refine (Tryz.strconv_ParseInt_10_at64_ok ⟨⟨if neg = true then 45 :: l else l⟩⟩ (by omega) (intV neg (natOf l)) hp w).mono fun e w' ⟨e1, e2⟩ => ⟨_, e1, φ, .tuple [.int .i64 (intV neg (natOf l)), .nilIface], h, φ.le_refl, ?_, ?_, ⟨_, rfl, fun _ => rfl⟩, rfl⟩
    · rcases e2 with e2 | ⟨t, e2⟩
      · rw [e2]; exact hr
      · rw [e2]; exact hr.later (Go.Lib.bytesWorld_below w _ t)
    · simp only [VR]
      refine ⟨_, rfl, ?_⟩
      simp only [VRs]
      exact ⟨_, _, rfl, by simp only [VR], _, _, rfl, by simp only [VR], rfl⟩
  | false =>
    have hp := hp.trans (show _ = Lib.NumEnd.range by rw [ho]; rfl)
    obtain ⟨ev, h1, h2⟩ := he.rng
    have hlt : 3 < w₀.heap.size := cell_lt h1
    have h1' : w.cell? ⟨3, 0, none⟩ = some ev := by rw [hr.below.cell (p := ⟨3, 0, none⟩) hlt]; exact h1
    refine (Tryz.strconv_ParseInt_10_at64_range ⟨⟨if neg = true then 45 :: l else l⟩⟩ (by omega) hp ev w h1' h2).mono fun e w' ⟨N, e1, e2, e3, e4⟩ => ⟨_, e1, φ, .tuple [.int .i64 (Lib.intSat 64 (if neg = true then 45 :: l else l)), .iface errT .dead], h, φ.le_refl, hr.later e4, ?_, ⟨_, rfl, fun e => (by cases e)⟩, rfl⟩
    simp only [VR]
    refine ⟨_, rfl, ?_⟩
    simp only [VRs]
    exact ⟨_, _, rfl, by simp only [VR], _, _, rfl, by simp only [VR]; exact ⟨_, rfl, trivial⟩, rfl⟩
def toIntE (d : D) : Int × Int :=
  if checkE d ≠ 0 then (0, 1) else if 0 < d.scale then (0, 12)
  else if intOk d.neg (natOf d.dig) = true then (intV d.neg (natOf d.dig), 0) else (0, 13)
theorem c_ToInt (w₀ : World) (he : Errs w₀) (h : AHeap) (d : D) (hl : d.dig.length ≤ 9223372036854775807) :
    ACall Tryz.prog w₀ 37 [decA d] h (fun v h' => v = .tuple [.int .i64 (toIntE d).1, .int .i64 (toIntE d).2] ∧ h' = h) := by
  refine acall_intro (n := 29) (rs := [.tmp 2, .tmp 3]) Tryz.func37 rfl rfl rfl rfl (Nat.le_of_ble_eq_true rfl) ?_
  simp only [initSlots]
  -- region 0  decimals.go:81
  refine awp_rseq [1] (by rfl) fun K hK => ?_
  refine aOps_box (by rfl) (by rfl) (by rfl) fun k0q0 hk0q0 => ?_
  try have hf_0q0 : h k0q0 = none := by first | assumption | (simp only [AHeap.set_none] at hk0q0; simp only [hk0q0])
  skip
  simp (decide := true) only [aOps_nil, ev, absV, absS, putD, Slots.put, Slots.get, Slots.keep, if_true, if_false, true_and, ↓ap_assign, pop_assign, AVal.cells, decA]
  repeat (with_reducible refine And.intro ?_ ?_; · first | trivial | omega | (intro hg; simp only [Bool.and_eq_true, Bool.or_eq_true, Bool.not_eq_true', Bool.and_eq_false_iff, Bool.or_eq_false_iff, Bool.not_eq_false', decide_eq_true_eq, decide_eq_false_iff_not, eqNil] at hg; omega) | (simp only [List.length_append, List.length_map, List.length_range, List.length_replicate, List.length_take, List.length_drop, List.length_cons, List.length_nil, List.length_set, List.length_reverse]; omega))
  apply hK; clear hK K
  refine awp_seq ?_
  refine awp_block ?_
  -- region 1  decimals.go:83
  refine awp_rseq [1, 7] (by rfl) fun K hK => ?_
  simp (decide := true) only [ev, putD, Slots.put, Slots.get, if_true, if_false, true_and, ↓ap_loadL, apL_mk, pLoad_agg ag27 sz27, rd_any, cellsAt, List.getD_cons_zero, List.getD_cons_succ, Nat.zero_add, Nat.reduceAdd, lv_bool, lv_int, lv_str, allLive, Bool.and_true]
  repeat (with_reducible refine And.intro ?_ ?_; · first | trivial | omega | (intro hg; simp only [Bool.and_eq_true, Bool.or_eq_true, Bool.not_eq_true', Bool.and_eq_false_iff, Bool.or_eq_false_iff, Bool.not_eq_false', decide_eq_true_eq, decide_eq_false_iff_not, eqNil] at hg; omega) | (simp only [List.length_append, List.length_map, List.length_range, List.length_replicate, List.length_take, List.length_drop, List.length_cons, List.length_nil, List.length_set, List.length_reverse]; omega))
  refine aOps_callV (V := .int .i64 (checkE d)) (by rfl) (by rfl) (c_Check w₀ _ d hl) ?_
  simp (decide := true) only [aOps_nil, ev, absV, absS, putD, Slots.put, Slots.get, Slots.keep, if_true, if_false, true_and, ↓ap_binOp, pop_binOp, isNilC_int, cond_false, pBinX_int, pI_neq, ↓ap_assign, pop_assign]
  repeat (with_reducible refine And.intro ?_ ?_; · first | trivial | omega | (intro hg; simp only [Bool.and_eq_true, Bool.or_eq_true, Bool.not_eq_true', Bool.and_eq_false_iff, Bool.or_eq_false_iff, Bool.not_eq_false', decide_eq_true_eq, decide_eq_false_iff_not, eqNil] at hg; omega) | (simp only [List.length_append, List.length_map, List.length_range, List.length_replicate, List.length_take, List.length_drop, List.length_cons, List.length_nil, List.length_set, List.length_reverse]; omega))
  apply hK; clear hK K
  refine awp_cond (b := _) rfl (fun hb1 => ?_) (fun hb1 => ?_)
  · try simp only [decide_eq_false_iff_not, Bool.not_eq_true'] at hb1
    -- region 2  decimals.go:84
    refine awp_rseq [2, 3] (by rfl) fun K hK => ?_
    simp (decide := true) only [aOps_nil, ev, absV, absS, putD, Slots.put, Slots.keep, if_true, if_false, true_and, ↓ap_assign, pop_assign]
    repeat (with_reducible refine And.intro ?_ ?_; · first | trivial | omega | (intro hg; simp only [Bool.and_eq_true, Bool.or_eq_true, Bool.not_eq_true', Bool.and_eq_false_iff, Bool.or_eq_false_iff, Bool.not_eq_false', decide_eq_true_eq, decide_eq_false_iff_not, eqNil] at hg; omega) | (simp only [List.length_append, List.length_map, List.length_range, List.length_replicate, List.length_take, List.length_drop, List.length_cons, List.length_nil, List.length_set, List.length_reverse]; omega))
    apply hK; clear hK K
    refine awp_ret ?_
    try simp only [thenA_ret, inBlockA_ret]
    refine retA_ret h (by repeat (first | exact Sub.refl _ | assumption | refine Sub.trans_set ?_ (by assumption))) (resPre_tmp (resPre_tmp (resPre_nil))) ?_
    simp (decide := true) only [Slots.get, if_true, if_false, and_true, resOf_two]
    rw [toIntE, if_pos hb1]
  · try simp only [decide_eq_true_eq, Bool.not_eq_false'] at hb1
    have hv : checkE d = 0 := by simpa using hb1
    obtain ⟨sd, dd, nd, _⟩ := Small_of_check hv
    have ha1 := sd.l
    -- region 3  decimals.go:85
    refine awp_rseq [1, 11] (by rfl) fun K hK => ?_
    simp (decide := true) only [aOps_nil, ev, absV, absS, putD, Slots.put, Slots.get, Slots.keep, if_true, if_false, true_and, ↓ap_fieldAddr, pop_fieldAddr, fa27_2, ↓ap_loadL, apL_mk, pLoad_one ag3, ↓ap_binOp, pop_binOp, isNilC_int, cond_false, pBinX_int, pI_gtr, ↓ap_assign, pop_assign, rd_any, List.getD_cons_zero, List.getD_cons_succ, Nat.zero_add, lv_int]
    repeat (with_reducible refine And.intro ?_ ?_; · first | trivial | omega | (intro hg; simp only [Bool.and_eq_true, Bool.or_eq_true, Bool.not_eq_true', Bool.and_eq_false_iff, Bool.or_eq_false_iff, Bool.not_eq_false', decide_eq_true_eq, decide_eq_false_iff_not, eqNil] at hg; omega) | (simp only [List.length_append, List.length_map, List.length_range, List.length_replicate, List.length_take, List.length_drop, List.length_cons, List.length_nil, List.length_set, List.length_reverse]; omega))
    apply hK; clear hK K
    refine awp_cond (b := _) rfl (fun hb2 => ?_) (fun hb2 => ?_)
    · try simp only [decide_eq_true_eq] at hb2
      -- region 4  decimals.go:86
      refine awp_rseq [2, 3] (by rfl) fun K hK => ?_
      simp (decide := true) only [aOps_nil, ev, absV, absS, putD, Slots.put, Slots.keep, if_true, if_false, true_and, ↓ap_assign, pop_assign]
      repeat (with_reducible refine And.intro ?_ ?_; · first | trivial | omega | (intro hg; simp only [Bool.and_eq_true, Bool.or_eq_true, Bool.not_eq_true', Bool.and_eq_false_iff, Bool.or_eq_false_iff, Bool.not_eq_false', decide_eq_true_eq, decide_eq_false_iff_not, eqNil] at hg; omega) | (simp only [List.length_append, List.length_map, List.length_range, List.length_replicate, List.length_take, List.length_drop, List.length_cons, List.length_nil, List.length_set, List.length_reverse]; omega))
      apply hK; clear hK K
      refine awp_ret ?_
      try simp only [thenA_ret, inBlockA_ret]
      refine retA_ret h (by repeat (first | exact Sub.refl _ | assumption | refine Sub.trans_set ?_ (by assumption))) (resPre_tmp (resPre_tmp (resPre_nil))) ?_
      simp (decide := true) only [Slots.get, if_true, if_false, and_true, resOf_two]
      rw [toIntE, if_neg (fun e => e hv), if_pos hb2]
    · try simp only [decide_eq_false_iff_not] at hb2
      refine awp_skip ?_
      change Awp _ _ _ _ _ _ _
      -- region 5  decimals.go:88
      refine awp_rseq [1, 4] (by rfl) fun K hK => ?_
      simp (decide := true) only [aOps_nil, ev, putD, Slots.put, Slots.get, Slots.keep, if_true, if_false, true_and, ↓ap_fieldAddr, pop_fieldAddr, fa27_1, ↓ap_loadL, apL_mk, pLoad_one ag9, ↓ap_assign, pop_assign, rd_any, List.getD_cons_zero, List.getD_cons_succ, Nat.zero_add, lv_str]
      repeat (with_reducible refine And.intro ?_ ?_; · first | trivial | omega | (intro hg; simp only [Bool.and_eq_true, Bool.or_eq_true, Bool.not_eq_true', Bool.and_eq_false_iff, Bool.or_eq_false_iff, Bool.not_eq_false', decide_eq_true_eq, decide_eq_false_iff_not, eqNil] at hg; omega) | (simp only [List.length_append, List.length_map, List.length_range, List.length_replicate, List.length_take, List.length_drop, List.length_cons, List.length_nil, List.length_set, List.length_reverse]; omega))
      apply hK; clear hK K
      refine awp_seq ?_
      -- region 6  decimals.go:89
      refine awp_rseq [4, 18] (by rfl) fun K hK => ?_
      simp (decide := true) only [aOps_nil, ev, putD, Slots.put, Slots.get, Slots.keep, if_true, if_false, true_and, ↓ap_fieldAddr, pop_fieldAddr, fa27_0, ↓ap_loadL, apL_mk, pLoad_one ag4, rd_any, List.getD_cons_zero, Nat.zero_add, lv_bool]
      repeat (with_reducible refine And.intro ?_ ?_; · first | trivial | omega | (intro hg; simp only [Bool.and_eq_true, Bool.or_eq_true, Bool.not_eq_true', Bool.and_eq_false_iff, Bool.or_eq_false_iff, Bool.not_eq_false', decide_eq_true_eq, decide_eq_false_iff_not, eqNil] at hg; omega) | (simp only [List.length_append, List.length_map, List.length_range, List.length_replicate, List.length_take, List.length_drop, List.length_cons, List.length_nil, List.length_set, List.length_reverse]; omega))
      apply hK; clear hK K
      refine awp_joinT [4] (fun s : List UInt8 => [(4, .str s)]) (fun s : List UInt8 => h.set k0q0 ⟨[.bool d.neg, .str d.dig, .int .i64 d.scale], 0⟩) (fun s : List UInt8 => s = (if d.neg = true then 45 :: d.dig else d.dig)) ?_ ?_
      · refine awp_cond (b := _) rfl (fun hb3 => ?_) (fun hb3 => ?_)
        · try simp only [decide_eq_true_eq, decide_eq_false_iff_not, Bool.not_eq_true', Bool.not_eq_false', Bool.and_eq_true, Bool.and_eq_false_iff, Bool.or_eq_true, Bool.or_eq_false_iff, Bool.true_eq, Bool.false_eq, reduceCtorEq] at hb3
          -- region 7  decimals.go:90
          refine awp_r [4] (by rfl) ?_
          simp (decide := true) only [aOps_nil, ev, absV, absS, putD, Slots.put, Slots.get, Slots.keep, if_true, if_false, true_and, ↓ap_move, pop_move, ↓ap_binOp, pop_binOp, isNilC_tmp, cond_false, pBinX_str, pS_add, ↓ap_assign, pop_assign]
          repeat (with_reducible refine And.intro ?_ ?_; · first | trivial | omega | (intro hg; simp only [Bool.and_eq_true, Bool.or_eq_true, Bool.not_eq_true', Bool.and_eq_false_iff, Bool.or_eq_false_iff, Bool.not_eq_false', decide_eq_true_eq, decide_eq_false_iff_not, eqNil] at hg; omega) | (simp only [List.length_cons, List.length_nil]; omega))
          try simp only [thenA_normal]
          first
          | exact ⟨_, rfl, Sub.refl _, by rw [if_pos hb3]; rfl⟩
          | exact ⟨_, rfl, Sub.refl _, by rw [if_neg (by rw [hb3]; decide)]⟩
        · try simp only [decide_eq_true_eq, decide_eq_false_iff_not, Bool.not_eq_true', Bool.not_eq_false', Bool.and_eq_true, Bool.and_eq_false_iff, Bool.or_eq_true, Bool.or_eq_false_iff, Bool.true_eq, Bool.false_eq, reduceCtorEq] at hb3
          refine awp_skip ?_
          try simp only [thenA_normal]
          first
          | exact ⟨_, rfl, Sub.refl _, by rw [if_pos hb3]; rfl⟩
          | exact ⟨_, rfl, Sub.refl _, by rw [if_neg (by rw [hb3]; decide)]⟩
      · rintro s hs
        subst hs
        -- region 8  decimals.go:92
        refine awp_rseq [5, 6] (by rfl) fun K hK => ?_
        simp (decide := true) only [ev, putD, Slots.put, Slots.get, if_true, if_false, true_and, ↓ap_move, pop_move]
        repeat (with_reducible refine And.intro ?_ ?_; · first | trivial | omega | (intro hg; simp only [Bool.and_eq_true, Bool.or_eq_true, Bool.not_eq_true', Bool.and_eq_false_iff, Bool.or_eq_false_iff, Bool.not_eq_false', decide_eq_true_eq, decide_eq_false_iff_not, eqNil] at hg; omega) | (simp only [List.length_append, List.length_map, List.length_range, List.length_replicate, List.length_take, List.length_drop, List.length_cons, List.length_nil, List.length_set, List.length_reverse]; omega))
        refine aOps_call (by rfl) (by rfl) (c_ParseInt w₀ he _ d.neg d.dig dd nd (by omega)) fun x8q1 h8q1 hx8q1 => ?_
        obtain ⟨⟨n, rfl, hn⟩, rfl⟩ := hx8q1
        simp (decide := true) only [aOps_nil, ev, putD, Slots.put, Slots.get, Slots.keep, if_true, if_false, true_and, ↓ap_move, pop_move, ↓ap_extract, pop_extract, pExt_tuple, List.length_cons, List.length_nil, List.getD_cons_zero, List.getD_cons_succ, ↓ap_assign, pop_assign, List.getD_cons_zero, List.getD_cons_succ, Nat.zero_add, Nat.reduceAdd]
        repeat (with_reducible refine And.intro ?_ ?_; · first | trivial | omega | (intro hg; simp only [Bool.and_eq_true, Bool.or_eq_true, Bool.not_eq_true', Bool.and_eq_false_iff, Bool.or_eq_false_iff, Bool.not_eq_false', decide_eq_true_eq, decide_eq_false_iff_not, eqNil] at hg; omega) | (simp only [List.length_append, List.length_map, List.length_range, List.length_replicate, List.length_take, List.length_drop, List.length_cons, List.length_nil, List.length_set, List.length_reverse]; omega))
        apply hK; clear hK K
        refine awp_seq ?_
        -- region 9  decimals.go:93
        refine awp_rseq [5, 27] (by rfl) fun K hK => ?_
        simp (decide := true) only [aOps_nil, ev, absV, absS, putD, Slots.put, Slots.get, Slots.keep, if_true, if_false, true_and, ↓ap_move, pop_move, ↓ap_binOp, pop_binOp, isNilC_nil, cond_true, pIfNil_errA]
        repeat (with_reducible refine And.intro ?_ ?_; · first | trivial | omega | (intro hg; simp only [Bool.and_eq_true, Bool.or_eq_true, Bool.not_eq_true', Bool.and_eq_false_iff, Bool.or_eq_false_iff, Bool.not_eq_false', decide_eq_true_eq, decide_eq_false_iff_not, eqNil] at hg; omega) | (simp only [List.length_append, List.length_map, List.length_range, List.length_replicate, List.length_take, List.length_drop, List.length_cons, List.length_nil, List.length_set, List.length_reverse]; omega))
        apply hK; clear hK K
        refine awp_cond (b := _) rfl (fun hb4 => ?_) (fun hb4 => ?_)
        · try simp only [Bool.not_eq_true'] at hb4
          -- region 10  decimals.go:94
          refine awp_rseq [2, 3] (by rfl) fun K hK => ?_
          simp (decide := true) only [aOps_nil, ev, absV, absS, putD, Slots.put, Slots.keep, if_true, if_false, true_and, ↓ap_assign, pop_assign]
          repeat (with_reducible refine And.intro ?_ ?_; · first | trivial | omega | (intro hg; simp only [Bool.and_eq_true, Bool.or_eq_true, Bool.not_eq_true', Bool.and_eq_false_iff, Bool.or_eq_false_iff, Bool.not_eq_false', decide_eq_true_eq, decide_eq_false_iff_not, eqNil] at hg; omega) | (simp only [List.length_append, List.length_map, List.length_range, List.length_replicate, List.length_take, List.length_drop, List.length_cons, List.length_nil, List.length_set, List.length_reverse]; omega))
          apply hK; clear hK K
          refine awp_ret ?_
          try simp only [thenA_ret]
          refine retA_ret h (by repeat (first | exact Sub.refl _ | assumption | refine Sub.trans_set ?_ (by assumption))) (resPre_tmp (resPre_tmp (resPre_nil))) ?_
          simp (decide := true) only [Slots.get, if_true, if_false, and_true, resOf_two]
          rw [toIntE, if_neg (fun e => e hv), if_neg hb2, if_neg (by rw [hb4]; decide)]
        · try simp only [Bool.not_eq_false'] at hb4
          refine awp_skip ?_
          change Awp _ _ _ _ _ _ _
          -- region 11  decimals.go:96
          refine awp_rseq [2, 3] (by rfl) fun K hK => ?_
          simp (decide := true) only [aOps_nil, ev, absV, absS, putD, Slots.put, Slots.get, Slots.keep, if_true, if_false, true_and, ↓ap_move, pop_move, ↓ap_assign, pop_assign]
          repeat (with_reducible refine And.intro ?_ ?_; · first | trivial | omega | (intro hg; simp only [Bool.and_eq_true, Bool.or_eq_true, Bool.not_eq_true', Bool.and_eq_false_iff, Bool.or_eq_false_iff, Bool.not_eq_false', decide_eq_true_eq, decide_eq_false_iff_not, eqNil] at hg; omega) | (simp only [List.length_append, List.length_map, List.length_range, List.length_replicate, List.length_take, List.length_drop, List.length_cons, List.length_nil, List.length_set, List.length_reverse]; omega))
          apply hK; clear hK K
          refine awp_ret ?_
          try simp only [thenA_ret, inBlockA_ret]
          refine retA_ret h (by repeat (first | exact Sub.refl _ | assumption | refine Sub.trans_set ?_ (by assumption))) (resPre_tmp (resPre_tmp (resPre_nil))) ?_
          simp (decide := true) only [Slots.get, if_true, if_false, and_true, resOf_two]
          rw [toIntE, if_neg (fun e => e hv), if_neg hb2, if_pos hb4, hn hb4]
end Go.Proofs.YthiiakghjoeikaaGreatDoor

