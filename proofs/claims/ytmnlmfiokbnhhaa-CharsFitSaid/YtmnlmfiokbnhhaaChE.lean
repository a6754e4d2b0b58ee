/-
  Contracts of the functions of the package chars: Fold, Fill.
  Conditions: none.
-/
import Derived.Test.YtmnlmfiokbnhhaaChD
set_option linter.unusedSimpArgs false
set_option linter.unusedVariables false
namespace Go.Proofs.Ytmnlmfiokbnhhaa
open Go.AM
open Go.Proofs
set_option maxRecDepth 100000

/-- What Fold makes of a byte. -/
def foldU (b : UInt8) : UInt8 := if 97 ≤ (b.toNat : Int) ∧ (b.toNat : Int) ≤ 122 then UInt8.ofNat ((b.toNat : Int) - 97 + 65).toNat else b

/-- A text of which the first bytes are folded. -/
def foldTo (s : List UInt8) (i : Nat) : List UInt8 := (s.take i).map foldU ++ s.drop i

theorem foldTo_length (s : List UInt8) (i : Nat) : (foldTo s i).length = s.length := by simp [foldTo]; omega
theorem foldTo_get (s : List UInt8) (i : Nat) (hi : i < s.length) : (foldTo s i).getD i 0 = s.getD i 0 := by
  have : (List.map foldU (List.take i s)).length = i := by simp; omega
  simp only [foldTo, List.getD]
  rw [List.getElem?_append_right (by omega), this, List.getElem?_drop]
  simp
theorem foldTo_succ (s : List UInt8) (i : Nat) (hi : i < s.length) : (foldTo s i).set i (foldU (s.getD i 0)) = foldTo s (i + 1) := by
  have e : (List.map foldU (List.take i s)).length = i := by simp; omega
  have e1 : s.drop i = s[i] :: s.drop (i + 1) := List.drop_eq_getElem_cons hi
  have e2 : s.getD i 0 = s[i] := by simp [List.getD, List.getElem?_eq_getElem hi]
  simp only [foldTo]
  have e3 : (s.drop i).set 0 (foldU s[i]) = foldU s[i] :: s.drop (i + 1) := by rw [e1]; rfl
  have e4 : s.take (i + 1) = s.take i ++ [s[i]] := by rw [List.take_add_one, List.getElem?_eq_getElem hi]; rfl
  rw [List.set_append_right _ _ (by omega), e, Nat.sub_self, e2, e3, e4, List.map_append, List.append_assoc]
  rfl
theorem foldTo_same (s : List UInt8) (i : Nat) (hi : i < s.length) (hf : foldU (s.getD i 0) = s.getD i 0) : foldTo s (i + 1) = foldTo s i := by
  rw [← foldTo_succ s i hi, hf]
  apply List.ext_getElem?
  intro j
  by_cases hj : i = j
  · subst hj
    have := foldTo_get s i hi
    simp only [List.getD] at this
    rw [List.getElem?_set]
    have h2 : i < (foldTo s i).length := by rw [foldTo_length]; exact hi
    rw [List.getElem?_eq_getElem h2] at this ⊢
    simp only [Option.getD_some] at this
    rw [if_pos rfl, if_pos h2, List.getD, this]
  · rw [List.getElem?_set_ne hj]

theorem c_fold (w₀ : World) (h : AHeap) (s : List UInt8) (hl : s.length ≤ 9223372036854775807) : ACall Try.prog w₀ 10 [.str s] h (fun v h' => v = .str (s.map foldU) ∧ h' = h) := by
  refine acall_intro (n := 30) (rs := [.tmp 2]) Try.func10 rfl rfl rfl rfl (Nat.le_of_ble_eq_true rfl) ?_
  simp only [initSlots]
  -- region 0  chars.go:47
  refine awp_rseq [0] (by rfl) fun K hK => ?_
  simp (decide := true) only [aOps_nil, ev, absV, absS, putD, Slots.put, Slots.get, Slots.keep, if_true, if_false, List.contains_cons, List.contains_nil, true_and, and_true, ↓ap_assign, pop_assign]
  repeat (with_reducible refine And.intro ?_ ?_; · first | trivial | omega | (intro hg; simp only [Bool.and_eq_true, Bool.or_eq_true, Bool.not_eq_true', Bool.and_eq_false_iff, Bool.or_eq_false_iff, Bool.not_eq_false', decide_eq_true_eq, decide_eq_false_iff_not, eqNil] at hg; omega))
  apply hK; clear hK K
  -- region 1  chars.go:48
  refine awp_rseq [3] (by rfl) fun K hK => ?_
  simp (decide := true) only [aOps_nil, ev, absV, absS, putD, Slots.put, Slots.get, Slots.keep, if_true, if_false, List.contains_cons, List.contains_nil, true_and, and_true, ↓ap_move, pop_move]
  repeat (with_reducible refine And.intro ?_ ?_; · first | trivial | omega | (intro hg; simp only [Bool.and_eq_true, Bool.or_eq_true, Bool.not_eq_true', Bool.and_eq_false_iff, Bool.or_eq_false_iff, Bool.not_eq_false', decide_eq_true_eq, decide_eq_false_iff_not, eqNil] at hg; omega))
  refine aOps_strBytes Try.underlying9 Try.underlying25 Try.underlying5 (by rfl) (by omega) fun k1 hk1 => ?_
  simp (decide := true) only [aOps_nil, ev, absV, absS, putD, Slots.put, Slots.get, Slots.keep, if_true, if_false, List.contains_cons, List.contains_nil, true_and, and_true, ↓ap_assign, pop_assign]
  repeat (with_reducible refine And.intro ?_ ?_; · first | trivial | omega | (intro hg; simp only [Bool.and_eq_true, Bool.or_eq_true, Bool.not_eq_true', Bool.and_eq_false_iff, Bool.or_eq_false_iff, Bool.not_eq_false', decide_eq_true_eq, decide_eq_false_iff_not, eqNil] at hg; omega))
  apply hK; clear hK K
  refine awp_seq ?_
  -- region 2  chars.go:49
  refine awp_rseq [3, 8, 9, 10] (by rfl) fun K hK => ?_
  simp (decide := true) only [aOps_nil, ev, absV, absS, putD, Slots.put, Slots.get, Slots.keep, if_true, if_false, List.contains_cons, List.contains_nil, true_and, and_true, ↓ap_move, pop_move, ↓ap_len, pop_len, pLen_slice Try.underlying25, pLen_nil Try.underlying25]
  repeat (with_reducible refine And.intro ?_ ?_; · first | trivial | omega | (intro hg; simp only [Bool.and_eq_true, Bool.or_eq_true, Bool.not_eq_true', Bool.and_eq_false_iff, Bool.or_eq_false_iff, Bool.not_eq_false', decide_eq_true_eq, decide_eq_false_iff_not, eqNil] at hg; omega))
  apply hK; clear hK K
  refine awp_block ?_
  refine awp_loopG [3, 8, 9, 10] (fun i : Nat => [(3, .slice (.own k1) 0 s.length (.grow 1)), (8, .slice (.own k1) 0 s.length (.grow 1)), (9, .int .i64 s.length), (10, .int .i64 i)]) (fun i : Nat => h.set k1 ⟨byteCells (foldTo s i), 0⟩) (fun i : Nat => i ≤ s.length) (fun i : Nat => s.length - i) 0 rfl (Sub.refl _) (Nat.zero_le _) ?_
  rintro i hi1
  have hlen := foldTo_length s i
  -- region 3  chars.go:49
  refine awp_rseq [3, 8, 9, 10, 11] (by rfl) fun K hK => ?_
  simp (decide := true) only [aOps_nil, ev, absV, absS, putD, Slots.put, Slots.get, Slots.keep, if_true, if_false, List.contains_cons, List.contains_nil, true_and, and_true, ↓ap_binOp, pop_binOp, pBinX_int, pI_lss]
  repeat (with_reducible refine And.intro ?_ ?_; · first | trivial | omega | (intro hg; simp only [Bool.and_eq_true, Bool.or_eq_true, Bool.not_eq_true', Bool.and_eq_false_iff, Bool.or_eq_false_iff, Bool.not_eq_false', decide_eq_true_eq, decide_eq_false_iff_not, eqNil] at hg; omega))
  apply hK; clear hK K
  refine awp_seq (awp_cond (b := _) rfl (fun hb1 => ?_) (fun hb1 => ?_))
  · try simp only [decide_eq_true_eq, decide_eq_false_iff_not, Bool.not_eq_true', Bool.not_eq_false', Bool.and_eq_true, Bool.and_eq_false_iff, Bool.or_eq_true, Bool.or_eq_false_iff, Bool.true_eq, Bool.false_eq, reduceCtorEq] at hb1
    refine awp_skip ?_
    change Awp _ _ _ _ _ _ _
    refine awp_seq ?_
    refine awp_block ?_
    -- region 4  chars.go:49
    refine awp_rseq [3, 4, 5, 8, 9, 10] (by rfl) fun K hK => ?_
    simp (decide := true) only [aOps_nil, ev, absV, absS, putD, Slots.put, Slots.get, Slots.keep, if_true, if_false, List.contains_cons, List.contains_nil, true_and, and_true, ↓ap_move, pop_move, ↓ap_indexAddrL, apL_mk, pIndexAddr_slice Try.underlying25 sz5, ↓ap_loadL, pLoad_one ag5, ↓ap_assign, pop_assign, rd_set, Nat.zero_add, Nat.mul_one, Int.toNat_natCast, byteCells_getD (bs := foldTo s i) (i := i) (by omega), foldTo_get s i (by omega), AVal.live]
    repeat (with_reducible refine And.intro ?_ ?_; · first | trivial | omega | (intro hg; simp only [Bool.and_eq_true, Bool.or_eq_true, Bool.not_eq_true', Bool.and_eq_false_iff, Bool.or_eq_false_iff, Bool.not_eq_false', decide_eq_true_eq, decide_eq_false_iff_not, eqNil] at hg; omega))
    apply hK; clear hK K
    -- region 5  chars.go:50
    refine awp_rseq [3, 4, 5, 8, 9, 10, 20] (by rfl) fun K hK => ?_
    simp (decide := true) only [aOps_nil, ev, absV, absS, putD, Slots.put, Slots.get, Slots.keep, if_true, if_false, List.contains_cons, List.contains_nil, true_and, and_true, ↓ap_move, pop_move, ↓ap_binOp, pop_binOp, pBinX_int, pI_geq, ↓ag_move, agP, agQ_some, gv, nthDst, gKnown_bool, gKnown_cond, guardB_cond, guardB_bool_true, guardB_bool_false, cv_cv, implies_true, Bool.not_not, decide_true, decide_false, Bool.not_false, Bool.not_true, condV_true, condV_false, forall_const, Bool.and_true, Bool.and_false, Bool.true_and, Bool.false_and, Bool.or_true, Bool.or_false, Bool.true_or, Bool.false_or, ↓ag_binOp, cv_binl, cv_binr, cp_binl, cp_binr, pI_leq, ↓ap_pick, pop_pick, pPick_bool, pickV_cond_l, pickV_cond_r, pickV_cond_rn, cp_nest1, cp_nest2, cp_nest3, cp_nest4, pickV_and, pickV_or]
    repeat (with_reducible refine And.intro ?_ ?_; · first | trivial | omega | (intro hg; simp only [Bool.and_eq_true, Bool.or_eq_true, Bool.not_eq_true', Bool.and_eq_false_iff, Bool.or_eq_false_iff, Bool.not_eq_false', decide_eq_true_eq, decide_eq_false_iff_not, eqNil] at hg; omega))
    apply hK; clear hK K
    refine awp_cond (b := _) rfl (fun hb2 => ?_) (fun hb2 => ?_)
    · try simp only [decide_eq_true_eq, decide_eq_false_iff_not, Bool.not_eq_true', Bool.not_eq_false', Bool.and_eq_true, Bool.and_eq_false_iff, Bool.or_eq_true, Bool.or_eq_false_iff, Bool.true_eq, Bool.false_eq, reduceCtorEq] at hb2
      -- region 6  chars.go:51
      refine awp_r [3, 8, 9, 10] (by rfl) ?_
      simp (decide := true) only [aOps_nil, ev, absV, absS, putD, Slots.put, Slots.get, Slots.keep, if_true, if_false, List.contains_cons, List.contains_nil, true_and, and_true, ↓ap_move, pop_move, ↓ap_binOp, pop_binOp, pBinX_int, pI_sub, pI_add]
      try simp (disch := omega) only [wrap_i64, wrap_u8]
      try simp (decide := true) only [aOps_nil, ev, absV, absS, putD, Slots.put, Slots.get, Slots.keep, if_true, if_false, List.contains_cons, List.contains_nil, true_and, and_true, ↓ap_indexAddrL, apL_mk, pIndexAddr_slice Try.underlying25 sz5]
      repeat (with_reducible refine And.intro ?_ ?_; · first | trivial | omega | (intro hg; simp only [Bool.and_eq_true, Bool.or_eq_true, Bool.not_eq_true', Bool.and_eq_false_iff, Bool.or_eq_false_iff, Bool.not_eq_false', decide_eq_true_eq, decide_eq_false_iff_not, eqNil] at hg; omega))
      refine aOps_storeByte (i := i) (by rfl) (by rfl) sz5 (by rfl) (by omega) (by omega) (Nat.zero_le _) (by omega) (by omega) ?_
      simp (decide := true) only [aOps_nil, ev, absV, absS, putD, Slots.put, Slots.get, Slots.keep, if_true, if_false, List.contains_cons, List.contains_nil, true_and, and_true]
      repeat (with_reducible refine And.intro ?_ ?_; · first | trivial | omega | (intro hg; simp only [Bool.and_eq_true, Bool.or_eq_true, Bool.not_eq_true', Bool.and_eq_false_iff, Bool.or_eq_false_iff, Bool.not_eq_false', decide_eq_true_eq, decide_eq_false_iff_not, eqNil] at hg; omega))
      change Awp _ _ _ _ _ _ _
      -- region 7  chars.go:49
      refine awp_r [3, 8, 9, 10] (by rfl) ?_
      simp (decide := true) only [aOps_nil, ev, absV, absS, putD, Slots.put, Slots.get, Slots.keep, if_true, if_false, List.contains_cons, List.contains_nil, true_and, and_true, ↓ap_binOp, pop_binOp, pBinX_int, pI_add, ↓ap_move, pop_move]
      try simp (disch := omega) only [wrap_i64, wrap_u8]
      repeat (with_reducible refine And.intro ?_ ?_; · first | trivial | omega | (intro hg; simp only [Bool.and_eq_true, Bool.or_eq_true, Bool.not_eq_true', Bool.and_eq_false_iff, Bool.or_eq_false_iff, Bool.not_eq_false', decide_eq_true_eq, decide_eq_false_iff_not, eqNil] at hg; omega))
      try simp only [thenA_normal, inBlockA_normal]
      refine ⟨i + 1, rfl, ?_, by omega, by omega⟩
      first
      | (have e : foldU (s.getD i 0) = UInt8.ofNat ((↑(s.getD i 0).toNat : Int) - 97 + 65).toNat := by rw [foldU, if_pos hb2]
         rw [← foldTo_succ s i (by omega), e]
         exact Sub.refl _)
      | (have e : foldU (s.getD i 0) = s.getD i 0 := by
           rw [foldU, if_neg]
           omega
         rw [foldTo_same s i (by omega) e]
         exact Sub.refl _)
    · try simp only [decide_eq_true_eq, decide_eq_false_iff_not, Bool.not_eq_true', Bool.not_eq_false', Bool.and_eq_true, Bool.and_eq_false_iff, Bool.or_eq_true, Bool.or_eq_false_iff, Bool.true_eq, Bool.false_eq, reduceCtorEq] at hb2
      refine awp_skip ?_
      change Awp _ _ _ _ _ _ _
      -- region 7  chars.go:49
      refine awp_r [3, 8, 9, 10] (by rfl) ?_
      simp (decide := true) only [aOps_nil, ev, absV, absS, putD, Slots.put, Slots.get, Slots.keep, if_true, if_false, List.contains_cons, List.contains_nil, true_and, and_true, ↓ap_binOp, pop_binOp, pBinX_int, pI_add, ↓ap_move, pop_move]
      try simp (disch := omega) only [wrap_i64, wrap_u8]
      repeat (with_reducible refine And.intro ?_ ?_; · first | trivial | omega | (intro hg; simp only [Bool.and_eq_true, Bool.or_eq_true, Bool.not_eq_true', Bool.and_eq_false_iff, Bool.or_eq_false_iff, Bool.not_eq_false', decide_eq_true_eq, decide_eq_false_iff_not, eqNil] at hg; omega))
      try simp only [thenA_normal, inBlockA_normal]
      refine ⟨i + 1, rfl, ?_, by omega, by omega⟩
      first
      | (have e : foldU (s.getD i 0) = UInt8.ofNat ((↑(s.getD i 0).toNat : Int) - 97 + 65).toNat := by rw [foldU, if_pos hb2]
         rw [← foldTo_succ s i (by omega), e]
         exact Sub.refl _)
      | (have e : foldU (s.getD i 0) = s.getD i 0 := by
           rw [foldU, if_neg]
           omega
         rw [foldTo_same s i (by omega) e]
         exact Sub.refl _)
  · try simp only [decide_eq_true_eq, decide_eq_false_iff_not, Bool.not_eq_true', Bool.not_eq_false', Bool.and_eq_true, Bool.and_eq_false_iff, Bool.or_eq_true, Bool.or_eq_false_iff, Bool.true_eq, Bool.false_eq, reduceCtorEq] at hb1
    refine awp_exit ?_
    change Awp _ _ _ _ _ _ _
    -- region 8  chars.go:54
    refine awp_rseq [2] (by rfl) fun K hK => ?_
    simp (decide := true) only [aOps_nil, ev, absV, absS, putD, Slots.put, Slots.get, Slots.keep, if_true, if_false, List.contains_cons, List.contains_nil, true_and, and_true, ↓ap_move, pop_move, ↓ap_convert _ _ _ (es_str Try.underlying25 Try.underlying9), pop_convert, ↓ap_assign, pop_assign, (IsB.own (w₀ := w₀) (AHeap.set_same h k1 _) hlen.symm (c := .grow 1) rfl).conv Try.underlying25 Try.underlying9 Try.underlying5]
    try simp (disch := omega) only [wrap_i64, wrap_u8]
    repeat (with_reducible refine And.intro ?_ ?_; · first | trivial | omega | (intro hg; simp only [Bool.and_eq_true, Bool.or_eq_true, Bool.not_eq_true', Bool.and_eq_false_iff, Bool.or_eq_false_iff, Bool.not_eq_false', decide_eq_true_eq, decide_eq_false_iff_not, eqNil] at hg; omega))
    apply hK; clear hK K
    refine awp_ret ?_
    try simp only [thenA_ret, inBlockA_ret]
    refine retA_ret h (Sub.set hk1) (resPre_tmp (resPre_nil)) ?_
    simp (decide := true) only [aOps_nil, ev, absV, absS, putD, Slots.put, Slots.get, Slots.keep, if_true, if_false, List.contains_cons, List.contains_nil, true_and, and_true, resOf_one]
    all_goals rw [foldTo, List.take_of_length_le (by omega), List.drop_eq_nil_of_le (by omega), List.append_nil]
end Go.Proofs.Ytmnlmfiokbnhhaa
