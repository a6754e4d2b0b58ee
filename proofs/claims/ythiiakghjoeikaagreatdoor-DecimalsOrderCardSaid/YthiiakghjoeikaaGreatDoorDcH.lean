/-
  Contracts: Add, Sub of the package decimals.
  Conditions: none.
-/
import Derived.Test.YthiiakghjoeikaaGreatDoorDcG
set_option linter.unusedSimpArgs false
set_option linter.unnecessarySimpa false
set_option linter.unusedVariables false
namespace Go.Proofs.YthiiakghjoeikaaGreatDoor
open Go.AM
open Go.Proofs
open Go.Dec
open Go.Lib (decDigits)
set_option maxRecDepth 100000

theorem less_natOf : ∀ (xs ys : List UInt8), xs.length = ys.length → xs.all dg = true → ys.all dg = true → Op.bytesLess xs ys = decide (natOf xs < natOf ys)
  | [], [], _, _, _ => by simp [Op.bytesLess]
  | a :: xs, b :: ys, hl, hx, hy => by
    simp only [List.all_cons, Bool.and_eq_true] at hx hy
    have hl' : xs.length = ys.length := by simpa using hl
    have ih := less_natOf xs ys hl' hx.2 hy.2
    have h1 := natOf_lt xs hx.2
    have h2 := natOf_lt ys hy.2
    have ha := (dg_iff a).1 hx.1
    have hb := (dg_iff b).1 hy.1
    rw [hl'] at h1
    simp only [Op.bytesLess, ih, natOf_cons, hl']
    by_cases c1 : a < b
    · have c1' := UInt8.lt_iff_toNat_lt.1 c1
      have hm : (dv a + 1) * 10 ^ ys.length ≤ dv b * 10 ^ ys.length := Nat.mul_le_mul_right _ (by simp only [dv]; omega)
      rw [Nat.add_mul, Nat.one_mul] at hm
      have : dv a * 10 ^ ys.length + natOf xs < dv b * 10 ^ ys.length + natOf ys := by omega
      simp [c1, this]
    · by_cases c2 : a = b
      · subst c2
        simp [c1]
      · have c3 : b.toNat < a.toNat := by
          have e1 : ¬ a.toNat < b.toNat := fun h => c1 (UInt8.lt_iff_toNat_lt.2 h)
          have e2 : a.toNat ≠ b.toNat := fun h => c2 (UInt8.toNat_inj.1 h)
          omega
        have hm : (dv b + 1) * 10 ^ ys.length ≤ dv a * 10 ^ ys.length := Nat.mul_le_mul_right _ (by simp only [dv]; omega)
        rw [Nat.add_mul, Nat.one_mul] at hm
        have : ¬ (dv a * 10 ^ ys.length + natOf xs < dv b * 10 ^ ys.length + natOf ys) := by omega
        simp [c1, c2, this]
  | [], _ :: _, h, _, _ => by simp at h
  | _ :: _, [], h, _, _ => by simp at h

/-- A number's digits at the common scale, as a number. -/
def alV (a b : D) : Nat := natOf a.dig * 10 ^ (alS a b - a.scale).toNat
theorem alS_comm (a b : D) : alS a b = alS b a := by unfold alS; omega
theorem natOf_pad (s : List UInt8) (n : Int) : natOf (padL s n) = natOf s := by rw [padL, natOf_append, natOf_zeros]; omega
theorem natOf_ext (a : D) (s : Int) : natOf (extD a s) = natOf a.dig * 10 ^ (s - a.scale).toNat := by rw [extD, natOf_append, natOf_zeros, List.length_replicate]; omega
theorem pad_all {s : List UInt8} (hs : s.all dg = true) (n : Int) : (padL s n).all dg = true := by rw [padL, all_append, all_zeros, hs]; rfl
theorem ext_all {a : D} (ha : a.dig.all dg = true) (s : Int) : (extD a s).all dg = true := by rw [extD, all_append, all_zeros, ha]; rfl
theorem pad_length {s : List UInt8} {n : Int} (h : (s.length : Int) ≤ n) : (padL s n).length = n.toNat := by simp [padL]; omega

def addE (a b : D) : D × Int :=
  if checkE a = 0 ∧ checkE b = 0 then
    if a.neg = b.neg then normE a.neg (alV a b + alV b a) (alS a b)
    else if alV b a ≤ alV a b then normE a.neg (alV a b - alV b a) (alS a b)
    else normE b.neg (alV b a - alV a b) (alS a b)
  else (noD, 1)

theorem c_Add (w₀ : World) (h : AHeap) (a b : D) (la : a.dig.length ≤ 9223372036854775807) (lb : b.dig.length ≤ 9223372036854775807) :
    ACall Tryz.prog w₀ 24 [decA a, decA b] h (fun v h' => v = .tuple [decA (addE a b).1, .int .i64 (addE a b).2] ∧ h' = h) := by
  refine acall_intro (n := 61) (rs := [.cell 4 27, .tmp 5]) Tryz.func24 rfl rfl rfl rfl (Nat.le_of_ble_eq_true rfl) ?_
  simp only [initSlots]
  -- region 0  decimals.go:206
  refine awp_rseq [2, 3, 4] (by rfl) fun K hK => ?_
  refine aOps_box (by rfl) (by rfl) (by rfl) fun k0q0 hk0q0 => ?_
  skip
  refine aOps_box (by rfl) (by rfl) (by rfl) fun k0q1 hk0q1 => ?_
  have hne := AHeap.ne_of hk0q1
  refine aOps_alloc ze27 (cs := [.bool false, .str [], .int .i64 0]) (by rfl) fun k0q2 hk0q2 => ?_
  have hne2 := AHeap.ne_of hk0q2
  have hne3 := AHeap.ne_of2 hk0q2
  simp (decide := true) only [aOps_nil, ev, absV, absS, putD, Slots.put, Slots.get, Slots.keep, if_true, if_false, true_and, ↓ap_assign, pop_assign, AVal.cells, Nat.zero_add, decA]
  repeat (with_reducible refine And.intro ?_ ?_; · first | trivial | omega | (intro hg; simp only [Bool.and_eq_true, Bool.or_eq_true, Bool.not_eq_true', Bool.and_eq_false_iff, Bool.or_eq_false_iff, Bool.not_eq_false', decide_eq_true_eq, decide_eq_false_iff_not, eqNil] at hg; omega) )
  apply hK; clear hK K
  refine awp_seq ?_
  -- region 1  decimals.go:207
  refine awp_rseq [2, 3, 4, 6] (by rfl) fun K hK => ?_
  simp (decide := true) only [ev, putD, Slots.put, Slots.get, if_true, if_false, true_and, ↓ap_loadL, apL_mk, pLoad_agg ag27 sz27, rd_any, cellsAt, List.getD_cons_zero, List.getD_cons_succ, Nat.zero_add, Nat.reduceAdd, lv_bool, lv_int, lv_str, allLive, Bool.and_true, rd_ne _ _ _ hne, rd_ne _ _ _ hne2, rd_ne _ _ _ hne3]
  repeat (with_reducible refine And.intro ?_ ?_; · first | trivial | omega | (intro hg; simp only [Bool.and_eq_true, Bool.or_eq_true, Bool.not_eq_true', Bool.and_eq_false_iff, Bool.or_eq_false_iff, Bool.not_eq_false', decide_eq_true_eq, decide_eq_false_iff_not, eqNil] at hg; omega) )
  refine aOps_callV (V := .int .i64 (max (checkE a) (checkE b))) (by rfl) (by rfl) (c_both w₀ _ a b la lb) ?_
  simp (decide := true) only [aOps_nil, ev, putD, Slots.put, Slots.get, Slots.keep, if_true, if_false, true_and, ↓ap_assign, pop_assign]
  repeat (with_reducible refine And.intro ?_ ?_; · first | trivial | omega | (intro hg; simp only [Bool.and_eq_true, Bool.or_eq_true, Bool.not_eq_true', Bool.and_eq_false_iff, Bool.or_eq_false_iff, Bool.not_eq_false', decide_eq_true_eq, decide_eq_false_iff_not, eqNil] at hg; omega) )
  apply hK; clear hK K
  -- region 2  decimals.go:207
  refine awp_rseq [2, 3, 4, 6, 14] (by rfl) fun K hK => ?_
  simp (decide := true) only [aOps_nil, ev, absV, absS, putD, Slots.put, Slots.get, Slots.keep, if_true, if_false, true_and, ↓ap_move, pop_move, ↓ap_binOp, pop_binOp, isNilC_int, cond_false, pBinX_int, pI_neq]
  repeat (with_reducible refine And.intro ?_ ?_; · first | trivial | omega | (intro hg; simp only [Bool.and_eq_true, Bool.or_eq_true, Bool.not_eq_true', Bool.and_eq_false_iff, Bool.or_eq_false_iff, Bool.not_eq_false', decide_eq_true_eq, decide_eq_false_iff_not, eqNil] at hg; omega) )
  apply hK; clear hK K
  refine awp_cond (b := _) rfl (fun hb1 => ?_) (fun hb1 => ?_)
  · try simp only [decide_eq_false_iff_not, Bool.not_eq_true'] at hb1
    -- region 3  decimals.go:208
    refine awp_rseq [4, 5] (by rfl) fun K hK => ?_
    simp (decide := true) only [ev, absV, absS, putD, Slots.put, Slots.get, if_true, if_false, true_and, ↓ap_build, ↓pop_buildL, bld27_, evP, List.map_nil, ↓ap_move, pop_move]
    repeat (with_reducible refine And.intro ?_ ?_; · first | trivial | omega | (intro hg; simp only [Bool.and_eq_true, Bool.or_eq_true, Bool.not_eq_true', Bool.and_eq_false_iff, Bool.or_eq_false_iff, Bool.not_eq_false', decide_eq_true_eq, decide_eq_false_iff_not, eqNil] at hg; omega) )
    refine aOps_store (by rfl) (by rfl) (AHeap.set_same _ _ _) sz27 (by rfl) (by rfl) (by first | exact Nat.le_refl _ | decide | (simp; done) | (simp; omega)) (Nat.zero_le _) (by rfl) ?_
    simp only [AHeap.set_set, AVal.cells]
    simp (decide := true) only [aOps_nil, ev, putD, Slots.put, Slots.get, Slots.keep, if_true, if_false, true_and, ↓ap_assign, pop_assign, setAt, List.set_cons_zero, List.set_cons_succ, Nat.zero_add, Nat.reduceAdd]
    repeat (with_reducible refine And.intro ?_ ?_; · first | trivial | omega | (intro hg; simp only [Bool.and_eq_true, Bool.or_eq_true, Bool.not_eq_true', Bool.and_eq_false_iff, Bool.or_eq_false_iff, Bool.not_eq_false', decide_eq_true_eq, decide_eq_false_iff_not, eqNil] at hg; omega) )
    apply hK; clear hK K
    refine awp_ret ?_
    try simp only [thenA_ret]
    refine retA_ret h (((Sub.set hk0q0).trans (Sub.set hk0q1)).trans (Sub.set hk0q2)) (?_) ?_
    · simp (decide := true) only [resPre, resV_tmp, resV_cell, Slots.get, if_true, if_false, and_true, resV_tmp, resV_cell, pLoad_agg ag27 sz27, rd_set, cellsAt, List.getD_cons_zero, List.getD_cons_succ, Nat.zero_add, Nat.reduceAdd, lv_bool, lv_int, lv_str, allLive, Bool.and_true, cellsAt, List.getD_cons_zero, List.getD_cons_succ, Nat.zero_add, Nat.reduceAdd, lv_bool, lv_int, lv_str, allLive, Bool.and_true]
    
    simp (decide := true) only [Slots.get, if_true, if_false, and_true, resOfG_two, resV_tmp, resV_cell, pLoad_agg ag27 sz27, rd_set, cellsAt, List.getD_cons_zero, List.getD_cons_succ, Nat.zero_add, Nat.reduceAdd, lv_bool, lv_int, lv_str, allLive, Bool.and_true, cellsAt, List.getD_cons_zero, List.getD_cons_succ, Nat.zero_add, Nat.reduceAdd, lv_bool, lv_int, lv_str, allLive, Bool.and_true, decA]
    have e1 := checkE_01 a
    have e2 := checkE_01 b
    have e : max (checkE a) (checkE b) = 1 := by omega
    rw [addE, if_neg (by omega), e]
    rfl
  · try simp only [decide_eq_true_eq, Bool.not_eq_false'] at hb1
    have e1 := checkE_01 a
    have e2 := checkE_01 b
    have ca : checkE a = 0 := by omega
    have cb : checkE b = 0 := by omega
    obtain ⟨sa, da, na, _⟩ := Small_of_check ca
    obtain ⟨sb, db, nb, _⟩ := Small_of_check cb
    have hx := pad_all (ext_all da (alS a b)) (alN a b)
    have hy := pad_all (ext_all db (alS a b)) (alN a b)
    have hS : alS a b = max a.scale b.scale := rfl
    have hN : alN a b = max ((extD a (alS a b)).length : Int) (extD b (alS a b)).length := rfl
    have hsA := extD_length a (alS a b)
    have hsB := extD_length b (alS a b)
    have lx := pad_length (s := extD a (alS a b)) (n := alN a b) (by omega)
    have ly := pad_length (s := extD b (alS a b)) (n := alN a b) (by omega)
    have vx : natOf (padL (extD a (alS a b)) (alN a b)) = alV a b := by rw [natOf_pad, natOf_ext, alV]
    have vy : natOf (padL (extD b (alS a b)) (alN a b)) = alV b a := by rw [natOf_pad, natOf_ext, alV, alS_comm b a]
    have hx1 := natOf_lt _ hx
    have hy1 := natOf_lt _ hy
    have ha1 := sa.l
    have ha2 := sa.s0
    have ha3 := sa.s1
    have hb1' := sb.l
    have hb2' := sb.s0
    have hb3' := sb.s1
    rw [vx] at hx1
    rw [vy] at hy1
    refine awp_skip ?_
    change Awp _ _ _ _ _ _ _
    -- region 4  decimals.go:210
    refine awp_rseq [2, 3, 4, 7, 8, 9] (by rfl) fun K hK => ?_
    simp (decide := true) only [ev, putD, Slots.put, Slots.get, if_true, if_false, true_and, ↓ap_loadL, apL_mk, pLoad_agg ag27 sz27, rd_any, cellsAt, List.getD_cons_zero, List.getD_cons_succ, Nat.zero_add, Nat.reduceAdd, lv_bool, lv_int, lv_str, allLive, Bool.and_true, rd_ne _ _ _ hne, rd_ne _ _ _ hne2, rd_ne _ _ _ hne3]
    repeat (with_reducible refine And.intro ?_ ?_; · first | trivial | omega | (intro hg; simp only [Bool.and_eq_true, Bool.or_eq_true, Bool.not_eq_true', Bool.and_eq_false_iff, Bool.or_eq_false_iff, Bool.not_eq_false', decide_eq_true_eq, decide_eq_false_iff_not, eqNil] at hg; omega) )
    refine aOps_callV (V := .tuple [.str (padL (extD a (alS a b)) (alN a b)), .str (padL (extD b (alS a b)) (alN a b)), .int .i64 (alS a b)]) (by rfl) (by rfl) (c_aligned w₀ _ a b sa sb) ?_
    simp (decide := true) only [aOps_nil, ev, putD, Slots.put, Slots.get, Slots.keep, if_true, if_false, true_and, ↓ap_move, pop_move, ↓ap_extract, pop_extract, pExt_tuple, List.length_cons, List.length_nil, List.getD_cons_zero, List.getD_cons_succ, ↓ap_assign, pop_assign, List.getD_cons_zero, List.getD_cons_succ, Nat.zero_add, Nat.reduceAdd]
    repeat (with_reducible refine And.intro ?_ ?_; · first | trivial | omega | (intro hg; simp only [Bool.and_eq_true, Bool.or_eq_true, Bool.not_eq_true', Bool.and_eq_false_iff, Bool.or_eq_false_iff, Bool.not_eq_false', decide_eq_true_eq, decide_eq_false_iff_not, eqNil] at hg; omega) )
    apply hK; clear hK K
    refine awp_seq ?_
    refine awp_block ?_
    -- region 5  decimals.go:212
    refine awp_rseq [2, 3, 4, 7, 8, 9, 24] (by rfl) fun K hK => ?_
    simp (decide := true) only [aOps_nil, ev, putD, Slots.put, Slots.get, Slots.keep, if_true, if_false, true_and, ↓ap_fieldAddr, pop_fieldAddr, fa27_0, ↓ap_loadL, apL_mk, pLoad_one ag4, ↓ap_binOp, pop_binOp, isNilC_tmp, cond_false, pBinX_beq, Tryz.underlying4, ↓ap_assign, pop_assign, rd_any, List.getD_cons_zero, Nat.zero_add, lv_bool, rd_ne _ _ _ hne, rd_ne _ _ _ hne2, rd_ne _ _ _ hne3]
    repeat (with_reducible refine And.intro ?_ ?_; · first | trivial | omega | (intro hg; simp only [Bool.and_eq_true, Bool.or_eq_true, Bool.not_eq_true', Bool.and_eq_false_iff, Bool.or_eq_false_iff, Bool.not_eq_false', decide_eq_true_eq, decide_eq_false_iff_not, eqNil] at hg; omega) )
    apply hK; clear hK K
    refine awp_cond (b := _) rfl (fun hb2 => ?_) (fun hb2 => ?_)
    · try simp only [decide_eq_true_eq, decide_eq_false_iff_not, Bool.not_eq_true', Bool.not_eq_false', Bool.and_eq_true, Bool.and_eq_false_iff, Bool.or_eq_true, Bool.or_eq_false_iff, Bool.true_eq, Bool.false_eq, reduceCtorEq] at hb2
      -- region 6  decimals.go:213
      refine awp_dseq_anyT 9 [4, 5] mixed (by kernel_rfl) (by rfl) fun K hK => ?_
      simp only [List.take_succ_cons, List.take_zero, List.drop_succ_cons, List.drop_zero]
      simp (decide := true) only [ev, putD, Slots.put, Slots.get, if_true, if_false, true_and, ↓vp_fieldAddr, pop_fieldAddr, fa27_0, ↓vp_load, pop_load, pLoad_one ag4, ↓vp_move, pop_move, rd_any, List.getD_cons_zero, Nat.zero_add, lv_bool, rd_ne _ _ _ hne, rd_ne _ _ _ hne3]
      repeat (with_reducible refine And.intro ?_ ?_; · first | trivial | omega | (intro hg; simp only [Bool.and_eq_true, Bool.or_eq_true, Bool.not_eq_true', Bool.and_eq_false_iff, Bool.or_eq_false_iff, Bool.not_eq_false', decide_eq_true_eq, decide_eq_false_iff_not, eqNil] at hg; omega) )
      refine vOps_callV (V := .str (fixS (alV a b + alV b a) ((alN a b).toNat + 1))) (by rfl) (by rfl) ((c_plus w₀ _ _ _ hx hy (by omega) (by omega)).val (by rw [vx, vy, lx])) ?_
      simp (decide := true) only [ev, putD, Slots.put, Slots.get, if_true, if_false, true_and, ↓vp_move, pop_move]
      repeat (with_reducible refine And.intro ?_ ?_; · first | trivial | omega | (intro hg; simp only [Bool.and_eq_true, Bool.or_eq_true, Bool.not_eq_true', Bool.and_eq_false_iff, Bool.or_eq_false_iff, Bool.not_eq_false', decide_eq_true_eq, decide_eq_false_iff_not, eqNil] at hg; omega) )
      refine vOps_callV (V := .tuple [decA (normE a.neg (alV a b + alV b a) (alS a b)).1, .int .i64 (normE a.neg (alV a b + alV b a) (alS a b)).2]) (by rfl) (by rfl) ((c_normal w₀ _ a.neg _ (alS a b) (fixS_all _ _) (by rw [fixS_length]; omega) (by omega) (by omega)).val (by rw [natOf_fixS _ _ (by rw [lx] at hx1; rw [ly] at hy1; rw [Nat.pow_succ]; omega)])) ?_
      simp (decide := true) only [vOps_nil, ev, putD, Slots.put, Slots.get, if_true, if_false, true_and, ↓vp_extract, pop_extract, pExt_tuple, List.length_cons, List.length_nil, List.getD_cons_zero, List.getD_cons_succ, List.getD_cons_zero, List.getD_cons_succ, Nat.zero_add, Nat.reduceAdd, decA]
      repeat (with_reducible refine And.intro ?_ ?_; · first | trivial | omega | (intro hg; simp only [Bool.and_eq_true, Bool.or_eq_true, Bool.not_eq_true', Bool.and_eq_false_iff, Bool.or_eq_false_iff, Bool.not_eq_false', decide_eq_true_eq, decide_eq_false_iff_not, eqNil] at hg; omega) )
      try simp only [vOps_nil, fOps_nil]
      refine aOps_store (by rfl) (by rfl) (AHeap.set_same _ _ _) sz27 (by rfl) (by rfl) (by first | exact Nat.le_refl _ | decide | (simp; done) | (simp; omega)) (Nat.zero_le _) (by rfl) ?_
      simp only [AHeap.set_set, AVal.cells]
      simp (decide := true) only [aOps_nil, ev, putD, Slots.put, Slots.get, Slots.keep, if_true, if_false, true_and, ↓ap_assign, pop_assign, setAt, List.set_cons_zero, List.set_cons_succ, Nat.zero_add, Nat.reduceAdd]
      repeat (with_reducible refine And.intro ?_ ?_; · first | trivial | omega | (intro hg; simp only [Bool.and_eq_true, Bool.or_eq_true, Bool.not_eq_true', Bool.and_eq_false_iff, Bool.or_eq_false_iff, Bool.not_eq_false', decide_eq_true_eq, decide_eq_false_iff_not, eqNil] at hg; omega) )
      apply hK; clear hK K
      refine awp_ret ?_
      try simp only [thenA_ret, inBlockA_ret]
      refine retA_ret h (((Sub.set hk0q0).trans (Sub.set hk0q1)).trans (Sub.set hk0q2)) (?_) ?_
      · simp (decide := true) only [resPre, resV_tmp, resV_cell, Slots.get, if_true, if_false, and_true, resV_tmp, resV_cell, pLoad_agg ag27 sz27, rd_set, cellsAt, List.getD_cons_zero, List.getD_cons_succ, Nat.zero_add, Nat.reduceAdd, lv_bool, lv_int, lv_str, allLive, Bool.and_true, cellsAt, List.getD_cons_zero, List.getD_cons_succ, Nat.zero_add, Nat.reduceAdd, lv_bool, lv_int, lv_str, allLive, Bool.and_true]
      
      simp (decide := true) only [Slots.get, if_true, if_false, and_true, resOfG_two, resV_tmp, resV_cell, pLoad_agg ag27 sz27, rd_set, cellsAt, List.getD_cons_zero, List.getD_cons_succ, Nat.zero_add, Nat.reduceAdd, lv_bool, lv_int, lv_str, allLive, Bool.and_true, cellsAt, List.getD_cons_zero, List.getD_cons_succ, Nat.zero_add, Nat.reduceAdd, lv_bool, lv_int, lv_str, allLive, Bool.and_true, decA]
      rw [addE, if_pos ⟨ca, cb⟩, if_pos (by simpa using hb2)]
    · try simp only [decide_eq_true_eq, decide_eq_false_iff_not, Bool.not_eq_true', Bool.not_eq_false', Bool.and_eq_true, Bool.and_eq_false_iff, Bool.or_eq_true, Bool.or_eq_false_iff, Bool.true_eq, Bool.false_eq, reduceCtorEq] at hb2
      -- region 7  decimals.go:214
      refine awp_rseq [2, 3, 4, 7, 8, 9, 39] (by rfl) fun K hK => ?_
      simp (decide := true) only [aOps_nil, ev, putD, Slots.put, Slots.get, Slots.keep, if_true, if_false, true_and, ↓ap_move, pop_move, ↓ap_binOp, pop_binOp, isNilC_tmp, cond_false, pBinX_str, pS_geq, ↓ap_assign, pop_assign]
      repeat (with_reducible refine And.intro ?_ ?_; · first | trivial | omega | (intro hg; simp only [Bool.and_eq_true, Bool.or_eq_true, Bool.not_eq_true', Bool.and_eq_false_iff, Bool.or_eq_false_iff, Bool.not_eq_false', decide_eq_true_eq, decide_eq_false_iff_not, eqNil] at hg; omega) )
      apply hK; clear hK K
      refine awp_cond (b := _) rfl (fun hb3 => ?_) (fun hb3 => ?_)
      · try simp only [Bool.not_eq_true'] at hb3
        have hle : alV b a ≤ alV a b := by
          rw [less_natOf _ _ (by omega) hx hy, vx, vy] at hb3
          simpa using hb3
        -- region 8  decimals.go:215
        refine awp_dseq_anyT 9 [4, 5] mixed (by kernel_rfl) (by rfl) fun K hK => ?_
        simp only [List.take_succ_cons, List.take_zero, List.drop_succ_cons, List.drop_zero]
        simp (decide := true) only [ev, putD, Slots.put, Slots.get, if_true, if_false, true_and, ↓vp_fieldAddr, pop_fieldAddr, fa27_0, ↓vp_load, pop_load, pLoad_one ag4, ↓vp_move, pop_move, rd_any, List.getD_cons_zero, Nat.zero_add, lv_bool, rd_ne _ _ _ hne, rd_ne _ _ _ hne3]
        repeat (with_reducible refine And.intro ?_ ?_; · first | trivial | omega | (intro hg; simp only [Bool.and_eq_true, Bool.or_eq_true, Bool.not_eq_true', Bool.and_eq_false_iff, Bool.or_eq_false_iff, Bool.not_eq_false', decide_eq_true_eq, decide_eq_false_iff_not, eqNil] at hg; omega) )
        refine vOps_callV (V := .str (fixS (alV a b - alV b a) (alN a b).toNat)) (by rfl) (by rfl) ((c_minus w₀ _ _ _ hx hy (by omega) (by omega) (by rw [vx, vy]; exact hle)).val (by rw [vx, vy, lx])) ?_
        simp (decide := true) only [ev, putD, Slots.put, Slots.get, if_true, if_false, true_and, ↓vp_move, pop_move]
        repeat (with_reducible refine And.intro ?_ ?_; · first | trivial | omega | (intro hg; simp only [Bool.and_eq_true, Bool.or_eq_true, Bool.not_eq_true', Bool.and_eq_false_iff, Bool.or_eq_false_iff, Bool.not_eq_false', decide_eq_true_eq, decide_eq_false_iff_not, eqNil] at hg; omega) )
        refine vOps_callV (V := .tuple [decA (normE a.neg (alV a b - alV b a) (alS a b)).1, .int .i64 (normE a.neg (alV a b - alV b a) (alS a b)).2]) (by rfl) (by rfl) ((c_normal w₀ _ a.neg _ (alS a b) (fixS_all _ _) (by rw [fixS_length]; omega) (by omega) (by omega)).val (by rw [natOf_fixS _ _ (by rw [lx] at hx1; rw [ly] at hy1; omega)])) ?_
        simp (decide := true) only [vOps_nil, ev, putD, Slots.put, Slots.get, if_true, if_false, true_and, ↓vp_extract, pop_extract, pExt_tuple, List.length_cons, List.length_nil, List.getD_cons_zero, List.getD_cons_succ, List.getD_cons_zero, List.getD_cons_succ, Nat.zero_add, Nat.reduceAdd, decA]
        repeat (with_reducible refine And.intro ?_ ?_; · first | trivial | omega | (intro hg; simp only [Bool.and_eq_true, Bool.or_eq_true, Bool.not_eq_true', Bool.and_eq_false_iff, Bool.or_eq_false_iff, Bool.not_eq_false', decide_eq_true_eq, decide_eq_false_iff_not, eqNil] at hg; omega) )
        try simp only [vOps_nil, fOps_nil]
        refine aOps_store (by rfl) (by rfl) (AHeap.set_same _ _ _) sz27 (by rfl) (by rfl) (by first | exact Nat.le_refl _ | decide | (simp; done) | (simp; omega)) (Nat.zero_le _) (by rfl) ?_
        simp only [AHeap.set_set, AVal.cells]
        simp (decide := true) only [aOps_nil, ev, putD, Slots.put, Slots.get, Slots.keep, if_true, if_false, true_and, ↓ap_assign, pop_assign, setAt, List.set_cons_zero, List.set_cons_succ, Nat.zero_add, Nat.reduceAdd]
        repeat (with_reducible refine And.intro ?_ ?_; · first | trivial | omega | (intro hg; simp only [Bool.and_eq_true, Bool.or_eq_true, Bool.not_eq_true', Bool.and_eq_false_iff, Bool.or_eq_false_iff, Bool.not_eq_false', decide_eq_true_eq, decide_eq_false_iff_not, eqNil] at hg; omega) )
        apply hK; clear hK K
        refine awp_ret ?_
        try simp only [thenA_ret, inBlockA_ret]
        refine retA_ret h (((Sub.set hk0q0).trans (Sub.set hk0q1)).trans (Sub.set hk0q2)) (?_) ?_
        · simp (decide := true) only [resPre, resV_tmp, resV_cell, Slots.get, if_true, if_false, and_true, resV_tmp, resV_cell, pLoad_agg ag27 sz27, rd_set, cellsAt, List.getD_cons_zero, List.getD_cons_succ, Nat.zero_add, Nat.reduceAdd, lv_bool, lv_int, lv_str, allLive, Bool.and_true, cellsAt, List.getD_cons_zero, List.getD_cons_succ, Nat.zero_add, Nat.reduceAdd, lv_bool, lv_int, lv_str, allLive, Bool.and_true]
        
        simp (decide := true) only [Slots.get, if_true, if_false, and_true, resOfG_two, resV_tmp, resV_cell, pLoad_agg ag27 sz27, rd_set, cellsAt, List.getD_cons_zero, List.getD_cons_succ, Nat.zero_add, Nat.reduceAdd, lv_bool, lv_int, lv_str, allLive, Bool.and_true, cellsAt, List.getD_cons_zero, List.getD_cons_succ, Nat.zero_add, Nat.reduceAdd, lv_bool, lv_int, lv_str, allLive, Bool.and_true, decA]
        rw [addE, if_pos ⟨ca, cb⟩, if_neg (by simpa using hb2), if_pos hle]
      · try simp only [Bool.not_eq_false'] at hb3
        have hlt : alV a b < alV b a := by
          rw [less_natOf _ _ (by omega) hx hy, vx, vy] at hb3
          simpa using hb3
        refine awp_skip ?_
        change Awp _ _ _ _ _ _ _
        -- region 9  decimals.go:217
        refine awp_dseq_anyT 9 [4, 5] mixed (by kernel_rfl) (by rfl) fun K hK => ?_
        simp only [List.take_succ_cons, List.take_zero, List.drop_succ_cons, List.drop_zero]
        simp (decide := true) only [ev, putD, Slots.put, Slots.get, if_true, if_false, true_and, ↓vp_fieldAddr, pop_fieldAddr, fa27_0, ↓vp_load, pop_load, pLoad_one ag4, ↓vp_move, pop_move, rd_any, List.getD_cons_zero, Nat.zero_add, lv_bool, rd_ne _ _ _ hne2]
        repeat (with_reducible refine And.intro ?_ ?_; · first | trivial | omega | (intro hg; simp only [Bool.and_eq_true, Bool.or_eq_true, Bool.not_eq_true', Bool.and_eq_false_iff, Bool.or_eq_false_iff, Bool.not_eq_false', decide_eq_true_eq, decide_eq_false_iff_not, eqNil] at hg; omega) )
        refine vOps_callV (V := .str (fixS (alV b a - alV a b) (alN a b).toNat)) (by rfl) (by rfl) ((c_minus w₀ _ _ _ hy hx (by omega) (by omega) (by rw [vx, vy]; omega)).val (by rw [vx, vy, ly])) ?_
        simp (decide := true) only [ev, putD, Slots.put, Slots.get, if_true, if_false, true_and, ↓vp_move, pop_move]
        repeat (with_reducible refine And.intro ?_ ?_; · first | trivial | omega | (intro hg; simp only [Bool.and_eq_true, Bool.or_eq_true, Bool.not_eq_true', Bool.and_eq_false_iff, Bool.or_eq_false_iff, Bool.not_eq_false', decide_eq_true_eq, decide_eq_false_iff_not, eqNil] at hg; omega) )
        refine vOps_callV (V := .tuple [decA (normE b.neg (alV b a - alV a b) (alS a b)).1, .int .i64 (normE b.neg (alV b a - alV a b) (alS a b)).2]) (by rfl) (by rfl) ((c_normal w₀ _ b.neg _ (alS a b) (fixS_all _ _) (by rw [fixS_length]; omega) (by omega) (by omega)).val (by rw [natOf_fixS _ _ (by rw [lx] at hx1; rw [ly] at hy1; omega)])) ?_
        simp (decide := true) only [vOps_nil, ev, putD, Slots.put, Slots.get, if_true, if_false, true_and, ↓vp_extract, pop_extract, pExt_tuple, List.length_cons, List.length_nil, List.getD_cons_zero, List.getD_cons_succ, List.getD_cons_zero, List.getD_cons_succ, Nat.zero_add, Nat.reduceAdd, decA]
        repeat (with_reducible refine And.intro ?_ ?_; · first | trivial | omega | (intro hg; simp only [Bool.and_eq_true, Bool.or_eq_true, Bool.not_eq_true', Bool.and_eq_false_iff, Bool.or_eq_false_iff, Bool.not_eq_false', decide_eq_true_eq, decide_eq_false_iff_not, eqNil] at hg; omega) )
        try simp only [vOps_nil, fOps_nil]
        refine aOps_store (by rfl) (by rfl) (AHeap.set_same _ _ _) sz27 (by rfl) (by rfl) (by first | exact Nat.le_refl _ | decide | (simp; done) | (simp; omega)) (Nat.zero_le _) (by rfl) ?_
        simp only [AHeap.set_set, AVal.cells]
        simp (decide := true) only [aOps_nil, ev, putD, Slots.put, Slots.get, Slots.keep, if_true, if_false, true_and, ↓ap_assign, pop_assign, setAt, List.set_cons_zero, List.set_cons_succ, Nat.zero_add, Nat.reduceAdd]
        repeat (with_reducible refine And.intro ?_ ?_; · first | trivial | omega | (intro hg; simp only [Bool.and_eq_true, Bool.or_eq_true, Bool.not_eq_true', Bool.and_eq_false_iff, Bool.or_eq_false_iff, Bool.not_eq_false', decide_eq_true_eq, decide_eq_false_iff_not, eqNil] at hg; omega) )
        apply hK; clear hK K
        refine awp_ret ?_
        try simp only [thenA_ret, inBlockA_ret]
        refine retA_ret h (((Sub.set hk0q0).trans (Sub.set hk0q1)).trans (Sub.set hk0q2)) (?_) ?_
        · simp (decide := true) only [resPre, resV_tmp, resV_cell, Slots.get, if_true, if_false, and_true, resV_tmp, resV_cell, pLoad_agg ag27 sz27, rd_set, cellsAt, List.getD_cons_zero, List.getD_cons_succ, Nat.zero_add, Nat.reduceAdd, lv_bool, lv_int, lv_str, allLive, Bool.and_true, cellsAt, List.getD_cons_zero, List.getD_cons_succ, Nat.zero_add, Nat.reduceAdd, lv_bool, lv_int, lv_str, allLive, Bool.and_true]
        
        simp (decide := true) only [Slots.get, if_true, if_false, and_true, resOfG_two, resV_tmp, resV_cell, pLoad_agg ag27 sz27, rd_set, cellsAt, List.getD_cons_zero, List.getD_cons_succ, Nat.zero_add, Nat.reduceAdd, lv_bool, lv_int, lv_str, allLive, Bool.and_true, cellsAt, List.getD_cons_zero, List.getD_cons_succ, Nat.zero_add, Nat.reduceAdd, lv_bool, lv_int, lv_str, allLive, Bool.and_true, decA]
        rw [addE, if_pos ⟨ca, cb⟩, if_neg (by simpa using hb2), if_neg (by omega)]

def subE (a b : D) : D × Int := if checkE a = 0 ∧ checkE b = 0 then addE a (otherD b) else (noD, 1)
theorem c_Sub (w₀ : World) (h : AHeap) (a b : D) (la : a.dig.length ≤ 9223372036854775807) (lb : b.dig.length ≤ 9223372036854775807) :
    ACall Tryz.prog w₀ 34 [decA a, decA b] h (fun v h' => v = .tuple [decA (subE a b).1, .int .i64 (subE a b).2] ∧ h' = h) := by
  refine acall_intro (n := 20) (rs := [.cell 4 27, .tmp 5]) Tryz.func34 rfl rfl rfl rfl (Nat.le_of_ble_eq_true rfl) ?_
  simp only [initSlots]
  -- region 0  decimals.go:221
  refine awp_rseq [2, 3, 4] (by rfl) fun K hK => ?_
  refine aOps_box (by rfl) (by rfl) (by rfl) fun k0q0 hk0q0 => ?_
  skip
  refine aOps_box (by rfl) (by rfl) (by rfl) fun k0q1 hk0q1 => ?_
  have hne := AHeap.ne_of hk0q1
  refine aOps_alloc ze27 (cs := [.bool false, .str [], .int .i64 0]) (by rfl) fun k0q2 hk0q2 => ?_
  have hne2 := AHeap.ne_of hk0q2
  have hne3 := AHeap.ne_of2 hk0q2
  simp (decide := true) only [aOps_nil, ev, absV, absS, putD, Slots.put, Slots.get, Slots.keep, if_true, if_false, true_and, ↓ap_assign, pop_assign, AVal.cells, Nat.zero_add, decA]
  repeat (with_reducible refine And.intro ?_ ?_; · first | trivial | omega | (intro hg; simp only [Bool.and_eq_true, Bool.or_eq_true, Bool.not_eq_true', Bool.and_eq_false_iff, Bool.or_eq_false_iff, Bool.not_eq_false', decide_eq_true_eq, decide_eq_false_iff_not, eqNil] at hg; omega) )
  apply hK; clear hK K
  refine awp_seq ?_
  -- region 1  decimals.go:222
  refine awp_rseq [2, 3, 4, 6] (by rfl) fun K hK => ?_
  simp (decide := true) only [ev, putD, Slots.put, Slots.get, if_true, if_false, true_and, ↓ap_loadL, apL_mk, pLoad_agg ag27 sz27, rd_any, cellsAt, List.getD_cons_zero, List.getD_cons_succ, Nat.zero_add, Nat.reduceAdd, lv_bool, lv_int, lv_str, allLive, Bool.and_true, rd_ne _ _ _ hne, rd_ne _ _ _ hne2, rd_ne _ _ _ hne3]
  repeat (with_reducible refine And.intro ?_ ?_; · first | trivial | omega | (intro hg; simp only [Bool.and_eq_true, Bool.or_eq_true, Bool.not_eq_true', Bool.and_eq_false_iff, Bool.or_eq_false_iff, Bool.not_eq_false', decide_eq_true_eq, decide_eq_false_iff_not, eqNil] at hg; omega) )
  refine aOps_callV (V := .int .i64 (max (checkE a) (checkE b))) (by rfl) (by rfl) (c_both w₀ _ a b la lb) ?_
  simp (decide := true) only [aOps_nil, ev, putD, Slots.put, Slots.get, Slots.keep, if_true, if_false, true_and, ↓ap_assign, pop_assign]
  repeat (with_reducible refine And.intro ?_ ?_; · first | trivial | omega | (intro hg; simp only [Bool.and_eq_true, Bool.or_eq_true, Bool.not_eq_true', Bool.and_eq_false_iff, Bool.or_eq_false_iff, Bool.not_eq_false', decide_eq_true_eq, decide_eq_false_iff_not, eqNil] at hg; omega) )
  apply hK; clear hK K
  -- region 2  decimals.go:222
  refine awp_rseq [2, 3, 4, 6, 11] (by rfl) fun K hK => ?_
  simp (decide := true) only [aOps_nil, ev, absV, absS, putD, Slots.put, Slots.get, Slots.keep, if_true, if_false, true_and, ↓ap_move, pop_move, ↓ap_binOp, pop_binOp, isNilC_int, cond_false, pBinX_int, pI_neq]
  repeat (with_reducible refine And.intro ?_ ?_; · first | trivial | omega | (intro hg; simp only [Bool.and_eq_true, Bool.or_eq_true, Bool.not_eq_true', Bool.and_eq_false_iff, Bool.or_eq_false_iff, Bool.not_eq_false', decide_eq_true_eq, decide_eq_false_iff_not, eqNil] at hg; omega) )
  apply hK; clear hK K
  refine awp_cond (b := _) rfl (fun hb1 => ?_) (fun hb1 => ?_)
  · try simp only [decide_eq_false_iff_not, Bool.not_eq_true'] at hb1
    -- region 3  decimals.go:223
    refine awp_rseq [4, 5] (by rfl) fun K hK => ?_
    simp (decide := true) only [ev, absV, absS, putD, Slots.put, Slots.get, if_true, if_false, true_and, ↓ap_build, ↓pop_buildL, bld27_, evP, List.map_nil, ↓ap_move, pop_move]
    repeat (with_reducible refine And.intro ?_ ?_; · first | trivial | omega | (intro hg; simp only [Bool.and_eq_true, Bool.or_eq_true, Bool.not_eq_true', Bool.and_eq_false_iff, Bool.or_eq_false_iff, Bool.not_eq_false', decide_eq_true_eq, decide_eq_false_iff_not, eqNil] at hg; omega) )
    refine aOps_store (by rfl) (by rfl) (AHeap.set_same _ _ _) sz27 (by rfl) (by rfl) (by first | exact Nat.le_refl _ | decide | (simp; done) | (simp; omega)) (Nat.zero_le _) (by rfl) ?_
    simp only [AHeap.set_set, AVal.cells]
    simp (decide := true) only [aOps_nil, ev, putD, Slots.put, Slots.get, Slots.keep, if_true, if_false, true_and, ↓ap_assign, pop_assign, setAt, List.set_cons_zero, List.set_cons_succ, Nat.zero_add, Nat.reduceAdd]
    repeat (with_reducible refine And.intro ?_ ?_; · first | trivial | omega | (intro hg; simp only [Bool.and_eq_true, Bool.or_eq_true, Bool.not_eq_true', Bool.and_eq_false_iff, Bool.or_eq_false_iff, Bool.not_eq_false', decide_eq_true_eq, decide_eq_false_iff_not, eqNil] at hg; omega) )
    apply hK; clear hK K
    refine awp_ret ?_
    try simp only [thenA_ret]
    refine retA_ret h (((Sub.set hk0q0).trans (Sub.set hk0q1)).trans (Sub.set hk0q2)) (?_) ?_
    · simp (decide := true) only [resPre, resV_tmp, resV_cell, Slots.get, if_true, if_false, and_true, resV_tmp, resV_cell, pLoad_agg ag27 sz27, rd_set, cellsAt, List.getD_cons_zero, List.getD_cons_succ, Nat.zero_add, Nat.reduceAdd, lv_bool, lv_int, lv_str, allLive, Bool.and_true, cellsAt, List.getD_cons_zero, List.getD_cons_succ, Nat.zero_add, Nat.reduceAdd, lv_bool, lv_int, lv_str, allLive, Bool.and_true]
    
    simp (decide := true) only [Slots.get, if_true, if_false, and_true, resOfG_two, resV_tmp, resV_cell, pLoad_agg ag27 sz27, rd_set, cellsAt, List.getD_cons_zero, List.getD_cons_succ, Nat.zero_add, Nat.reduceAdd, lv_bool, lv_int, lv_str, allLive, Bool.and_true, cellsAt, List.getD_cons_zero, List.getD_cons_succ, Nat.zero_add, Nat.reduceAdd, lv_bool, lv_int, lv_str, allLive, Bool.and_true, decA]
    have e1 := checkE_01 a
    have e2 := checkE_01 b
    have e : max (checkE a) (checkE b) = 1 := by omega
    rw [subE, if_neg (by omega), e]
    rfl
  · try simp only [decide_eq_true_eq, Bool.not_eq_false'] at hb1
    refine awp_skip ?_
    change Awp _ _ _ _ _ _ _
    -- region 4  decimals.go:225
    refine awp_dseq_anyT 6 [4, 5] mixed (by kernel_rfl) (by rfl) fun K hK => ?_
    simp only [List.take_succ_cons, List.take_zero, List.drop_succ_cons, List.drop_zero]
    simp (decide := true) only [ev, putD, Slots.put, Slots.get, if_true, if_false, true_and, ↓vp_load, pop_load, pLoad_agg ag27 sz27, rd_any, cellsAt, List.getD_cons_zero, List.getD_cons_succ, Nat.zero_add, Nat.reduceAdd, lv_bool, lv_int, lv_str, allLive, Bool.and_true, rd_ne _ _ _ hne, rd_ne _ _ _ hne2, rd_ne _ _ _ hne3]
    repeat (with_reducible refine And.intro ?_ ?_; · first | trivial | omega | (intro hg; simp only [Bool.and_eq_true, Bool.or_eq_true, Bool.not_eq_true', Bool.and_eq_false_iff, Bool.or_eq_false_iff, Bool.not_eq_false', decide_eq_true_eq, decide_eq_false_iff_not, eqNil] at hg; omega) )
    refine vOps_callV (V := decA (otherD b)) (by rfl) (by rfl) (c_other w₀ _ b) ?_
    refine vOps_callV (V := .tuple [decA (addE a (otherD b)).1, .int .i64 (addE a (otherD b)).2]) (by rfl) (by rfl) (c_Add w₀ _ a (otherD b) la lb) ?_
    simp (decide := true) only [vOps_nil, ev, putD, Slots.put, Slots.get, if_true, if_false, true_and, ↓vp_extract, pop_extract, pExt_tuple, List.length_cons, List.length_nil, List.getD_cons_zero, List.getD_cons_succ, List.getD_cons_zero, List.getD_cons_succ, Nat.zero_add, Nat.reduceAdd, decA]
    repeat (with_reducible refine And.intro ?_ ?_; · first | trivial | omega | (intro hg; simp only [Bool.and_eq_true, Bool.or_eq_true, Bool.not_eq_true', Bool.and_eq_false_iff, Bool.or_eq_false_iff, Bool.not_eq_false', decide_eq_true_eq, decide_eq_false_iff_not, eqNil] at hg; omega) )
    try simp only [vOps_nil, fOps_nil]
    refine aOps_store (by rfl) (by rfl) (AHeap.set_same _ _ _) sz27 (by rfl) (by rfl) (by first | exact Nat.le_refl _ | decide | (simp; done) | (simp; omega)) (Nat.zero_le _) (by rfl) ?_
    simp only [AHeap.set_set, AVal.cells]
    simp (decide := true) only [aOps_nil, ev, putD, Slots.put, Slots.get, Slots.keep, if_true, if_false, true_and, ↓ap_assign, pop_assign, setAt, List.set_cons_zero, List.set_cons_succ, Nat.zero_add, Nat.reduceAdd]
    repeat (with_reducible refine And.intro ?_ ?_; · first | trivial | omega | (intro hg; simp only [Bool.and_eq_true, Bool.or_eq_true, Bool.not_eq_true', Bool.and_eq_false_iff, Bool.or_eq_false_iff, Bool.not_eq_false', decide_eq_true_eq, decide_eq_false_iff_not, eqNil] at hg; omega) )
    apply hK; clear hK K
    refine awp_ret ?_
    try simp only [thenA_ret, inBlockA_ret]
    refine retA_ret h (((Sub.set hk0q0).trans (Sub.set hk0q1)).trans (Sub.set hk0q2)) (?_) ?_
    · simp (decide := true) only [resPre, resV_tmp, resV_cell, Slots.get, if_true, if_false, and_true, resV_tmp, resV_cell, pLoad_agg ag27 sz27, rd_set, cellsAt, List.getD_cons_zero, List.getD_cons_succ, Nat.zero_add, Nat.reduceAdd, lv_bool, lv_int, lv_str, allLive, Bool.and_true, cellsAt, List.getD_cons_zero, List.getD_cons_succ, Nat.zero_add, Nat.reduceAdd, lv_bool, lv_int, lv_str, allLive, Bool.and_true]
    
    simp (decide := true) only [Slots.get, if_true, if_false, and_true, resOfG_two, resV_tmp, resV_cell, pLoad_agg ag27 sz27, rd_set, cellsAt, List.getD_cons_zero, List.getD_cons_succ, Nat.zero_add, Nat.reduceAdd, lv_bool, lv_int, lv_str, allLive, Bool.and_true, cellsAt, List.getD_cons_zero, List.getD_cons_succ, Nat.zero_add, Nat.reduceAdd, lv_bool, lv_int, lv_str, allLive, Bool.and_true, decA]
    have e1 := checkE_01 a
    have e2 := checkE_01 b
    rw [subE, if_pos (by omega)]
end Go.Proofs.YthiiakghjoeikaaGreatDoor
