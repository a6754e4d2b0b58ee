/-
  Contracts of the functions of the package chars that fold and compare.
  Conditions: none.
-/
import Derived.Test.YtmnlmfiokbnhhaaChB
set_option linter.unusedSimpArgs false
set_option linter.unusedVariables false
namespace Go.Proofs.Ytmnlmfiokbnhhaa
open Go.AM
open Go.Proofs
set_option maxRecDepth 100000

theorem c_isdigits (w₀ : World) (h : AHeap) (s : List UInt8) (hl : s.length ≤ 9223372036854775807) :
    ACall Try.prog w₀ 18 [.str s] h (fun v h' => v = .bool (!decide (s = []) && s.all fun b => decide (48 ≤ (b.toNat : Int)) && decide ((b.toNat : Int) ≤ 57)) ∧ h' = h) := by
  refine acall_intro (n := 9) (rs := [.tmp 2]) Try.func18 rfl rfl rfl rfl (Nat.le_of_ble_eq_true rfl) ?_
  simp only [initSlots]
  -- region 0  chars.go:31
  refine awp_rseq [0] (by rfl) fun K hK => ?_
  simp (decide := true) only [aOps_nil, ev, absV, absS, putD, Slots.put, Slots.get, Slots.keep, if_true, if_false, List.contains_cons, List.contains_nil, true_and, and_true, ↓ap_assign, pop_assign]
  repeat (with_reducible refine And.intro ?_ ?_; · first | trivial | omega | (intro hg; simp only [Bool.and_eq_true, Bool.or_eq_true, Bool.not_eq_true', Bool.and_eq_false_iff, Bool.or_eq_false_iff, Bool.not_eq_false', decide_eq_true_eq, decide_eq_false_iff_not, eqNil] at hg; omega))
  apply hK; clear hK K
  -- region 1  chars.go:31
  refine awp_rseq [2] (by rfl) fun K hK => ?_
  simp (decide := true) only [aOps_nil, ev, absV, absS, putD, Slots.put, Slots.get, Slots.keep, if_true, if_false, List.contains_cons, List.contains_nil, true_and, and_true, ↓ap_move, pop_move, ↓ap_binOp, pop_binOp, pBinX_str, pS_neq, ↓ag_move, agP, agQ_some, gv, nthDst, gKnown_bool, gKnown_cond, guardB_cond, guardB_bool_true, guardB_bool_false, cv_cv, implies_true, Bool.not_not, decide_true, decide_false, Bool.not_false, Bool.not_true, condV_true, condV_false, forall_const, Bool.and_true, Bool.and_false, Bool.true_and, Bool.false_and, Bool.or_true, Bool.or_false, Bool.true_or, Bool.false_or]
  repeat (with_reducible refine And.intro ?_ ?_; · first | trivial | omega | (intro hg; simp only [Bool.and_eq_true, Bool.or_eq_true, Bool.not_eq_true', Bool.and_eq_false_iff, Bool.or_eq_false_iff, Bool.not_eq_false', decide_eq_true_eq, decide_eq_false_iff_not, eqNil] at hg; omega))
  first
  | (refine aOps_yes (by rfl) ?_; refine aOps_callV (V := .bool (s.all fun b => decide (48 ≤ (b.toNat : Int)) && decide ((b.toNat : Int) ≤ 57))) (by rfl) (by rfl) (c_all w₀ h s 22 _ hl fun b => c_digit w₀ h _) ?_)
  | (refine aOps_gcall (V := .bool (s.all fun b => decide (48 ≤ (b.toNat : Int)) && decide ((b.toNat : Int) ≤ 57))) (f := _) (cap := _) (xs := _) rfl (fun hg => ⟨rfl, ?_⟩) (fun hg => c_all w₀ h s 22 _ hl fun b => c_digit w₀ h _) ?_; · (simp (decide := true) only [gv, nthDst, Slots.get, if_true, if_false, guardB_bool_true, guardB_bool_false, guardB_cond, Bool.not_not] at hg; simp (decide := true) only [evs, ev, Slots.get, if_true, if_false, hg, condV_true, List.append_nil, List.map_cons, List.map_nil]))
  simp (decide := true) only [aOps_nil, ev, absV, absS, putD, Slots.put, Slots.get, Slots.keep, if_true, if_false, List.contains_cons, List.contains_nil, true_and, and_true, gv, nthDst, guardB_bool_true, guardB_bool_false, guardB_cond, ↓ap_pick, pop_pick, pPick_bool, pickV_cond_l, pickV_cond_r, pickV_cond_rn, cp_nest1, cp_nest2, cp_nest3, cp_nest4, pickV_and, pickV_or, ↓ap_assign, pop_assign]
  repeat (with_reducible refine And.intro ?_ ?_; · first | trivial | omega | (intro hg; simp only [Bool.and_eq_true, Bool.or_eq_true, Bool.not_eq_true', Bool.and_eq_false_iff, Bool.or_eq_false_iff, Bool.not_eq_false', decide_eq_true_eq, decide_eq_false_iff_not, eqNil] at hg; omega))
  apply hK; clear hK K
  refine awp_ret ?_
  try simp only [thenA_ret, inBlockA_ret]
  refine retA_ret _ (Sub.refl _) (resPre_tmp (resPre_nil)) ?_
  simp (decide := true) only [aOps_nil, ev, absV, absS, putD, Slots.put, Slots.get, Slots.keep, if_true, if_false, List.contains_cons, List.contains_nil, true_and, and_true, resOf_one]
  all_goals first | rfl | exact ⟨rfl, rfl⟩ | (simp (decide := true) only [if_true, if_false, *]; done) | (trace_state; fail)

theorem c_printable (w₀ : World) (h : AHeap) (s : List UInt8) (hl : s.length ≤ 9223372036854775807) :
    ACall Try.prog w₀ 19 [.str s] h (fun v h' => v = .bool (s.all fun b => decide (32 ≤ (b.toNat : Int)) && decide ((b.toNat : Int) ≤ 126)) ∧ h' = h) := by
  refine acall_intro (n := 5) (rs := [.tmp 2]) Try.func19 rfl rfl rfl rfl (Nat.le_of_ble_eq_true rfl) ?_
  simp only [initSlots]
  -- region 0  chars.go:42
  refine awp_rseq [0] (by rfl) fun K hK => ?_
  simp (decide := true) only [aOps_nil, ev, absV, absS, putD, Slots.put, Slots.get, Slots.keep, if_true, if_false, List.contains_cons, List.contains_nil, true_and, and_true, ↓ap_assign, pop_assign]
  repeat (with_reducible refine And.intro ?_ ?_; · first | trivial | omega | (intro hg; simp only [Bool.and_eq_true, Bool.or_eq_true, Bool.not_eq_true', Bool.and_eq_false_iff, Bool.or_eq_false_iff, Bool.not_eq_false', decide_eq_true_eq, decide_eq_false_iff_not, eqNil] at hg; omega))
  apply hK; clear hK K
  -- region 1  chars.go:43
  refine awp_rseq [2] (by rfl) fun K hK => ?_
  simp (decide := true) only [aOps_nil, ev, absV, absS, putD, Slots.put, Slots.get, Slots.keep, if_true, if_false, List.contains_cons, List.contains_nil, true_and, and_true, ↓ap_move, pop_move]
  repeat (with_reducible refine And.intro ?_ ?_; · first | trivial | omega | (intro hg; simp only [Bool.and_eq_true, Bool.or_eq_true, Bool.not_eq_true', Bool.and_eq_false_iff, Bool.or_eq_false_iff, Bool.not_eq_false', decide_eq_true_eq, decide_eq_false_iff_not, eqNil] at hg; omega))
  refine aOps_callV (V := .bool (s.all fun b => decide (32 ≤ (b.toNat : Int)) && decide ((b.toNat : Int) ≤ 126))) (by rfl) (by rfl) (c_all w₀ h s 31 _ hl fun b => c_printable1 w₀ h _) ?_
  simp (decide := true) only [aOps_nil, ev, absV, absS, putD, Slots.put, Slots.get, Slots.keep, if_true, if_false, List.contains_cons, List.contains_nil, true_and, and_true, ↓ap_assign, pop_assign]
  repeat (with_reducible refine And.intro ?_ ?_; · first | trivial | omega | (intro hg; simp only [Bool.and_eq_true, Bool.or_eq_true, Bool.not_eq_true', Bool.and_eq_false_iff, Bool.or_eq_false_iff, Bool.not_eq_false', decide_eq_true_eq, decide_eq_false_iff_not, eqNil] at hg; omega))
  apply hK; clear hK K
  refine awp_ret ?_
  try simp only [thenA_ret, inBlockA_ret]
  refine retA_ret _ (Sub.refl _) (resPre_tmp (resPre_nil)) ?_
  simp (decide := true) only [aOps_nil, ev, absV, absS, putD, Slots.put, Slots.get, Slots.keep, if_true, if_false, List.contains_cons, List.contains_nil, true_and, and_true, resOf_one]
  all_goals first | rfl | exact ⟨rfl, rfl⟩ | (simp (decide := true) only [if_true, if_false, *]; done) | (trace_state; fail)

theorem c_size (w₀ : World) (h : AHeap) (n : Int) : ACall Try.prog w₀ 25 [.int .i64 n] h (fun v h' => v = .int .i64 (if n < 0 then 1 else if 1048576 < n then 3 else 0) ∧ h' = h) := by
  refine acall_intro (n := 9) (rs := [.tmp 2]) Try.func25 rfl rfl rfl rfl (Nat.le_of_ble_eq_true rfl) ?_
  simp only [initSlots]
  -- region 0  chars.go:76
  refine awp_rseq [0] (by rfl) fun K hK => ?_
  simp (decide := true) only [aOps_nil, ev, absV, absS, putD, Slots.put, Slots.get, Slots.keep, if_true, if_false, List.contains_cons, List.contains_nil, true_and, and_true, ↓ap_assign, pop_assign]
  repeat (with_reducible refine And.intro ?_ ?_; · first | trivial | omega | (intro hg; simp only [Bool.and_eq_true, Bool.or_eq_true, Bool.not_eq_true', Bool.and_eq_false_iff, Bool.or_eq_false_iff, Bool.not_eq_false', decide_eq_true_eq, decide_eq_false_iff_not, eqNil] at hg; omega))
  apply hK; clear hK K
  refine awp_seq ?_
  refine awp_block ?_
  -- region 1  chars.go:78
  refine awp_rseq [0, 3] (by rfl) fun K hK => ?_
  simp (decide := true) only [aOps_nil, ev, absV, absS, putD, Slots.put, Slots.get, Slots.keep, if_true, if_false, List.contains_cons, List.contains_nil, true_and, and_true, ↓ap_move, pop_move, ↓ap_binOp, pop_binOp, pBinX_int, pI_lss, ↓ap_assign, pop_assign]
  repeat (with_reducible refine And.intro ?_ ?_; · first | trivial | omega | (intro hg; simp only [Bool.and_eq_true, Bool.or_eq_true, Bool.not_eq_true', Bool.and_eq_false_iff, Bool.or_eq_false_iff, Bool.not_eq_false', decide_eq_true_eq, decide_eq_false_iff_not, eqNil] at hg; omega))
  apply hK; clear hK K
  refine awp_cond (b := _) rfl (fun hb1 => ?_) (fun hb1 => ?_)
  · try simp only [decide_eq_true_eq, decide_eq_false_iff_not, Bool.not_eq_true', Bool.not_eq_false', Bool.and_eq_true, Bool.and_eq_false_iff, Bool.or_eq_true, Bool.or_eq_false_iff, Bool.true_eq, Bool.false_eq, reduceCtorEq] at hb1
    -- region 2  chars.go:79
    refine awp_rseq [2] (by rfl) fun K hK => ?_
    simp (decide := true) only [aOps_nil, ev, absV, absS, putD, Slots.put, Slots.get, Slots.keep, if_true, if_false, List.contains_cons, List.contains_nil, true_and, and_true, ↓ap_assign, pop_assign]
    repeat (with_reducible refine And.intro ?_ ?_; · first | trivial | omega | (intro hg; simp only [Bool.and_eq_true, Bool.or_eq_true, Bool.not_eq_true', Bool.and_eq_false_iff, Bool.or_eq_false_iff, Bool.not_eq_false', decide_eq_true_eq, decide_eq_false_iff_not, eqNil] at hg; omega))
    apply hK; clear hK K
    refine awp_ret ?_
    try simp only [thenA_ret, inBlockA_ret]
    refine retA_ret _ (Sub.refl _) (resPre_tmp (resPre_nil)) ?_
    simp (decide := true) only [aOps_nil, ev, absV, absS, putD, Slots.put, Slots.get, Slots.keep, if_true, if_false, List.contains_cons, List.contains_nil, true_and, and_true, resOf_one]
    all_goals first | rfl | exact ⟨rfl, rfl⟩ | (simp (decide := true) only [if_true, if_false, *]; done) | (trace_state; fail)
  · try simp only [decide_eq_true_eq, decide_eq_false_iff_not, Bool.not_eq_true', Bool.not_eq_false', Bool.and_eq_true, Bool.and_eq_false_iff, Bool.or_eq_true, Bool.or_eq_false_iff, Bool.true_eq, Bool.false_eq, reduceCtorEq] at hb1
    -- region 3  chars.go:80
    refine awp_rseq [6] (by rfl) fun K hK => ?_
    simp (decide := true) only [aOps_nil, ev, absV, absS, putD, Slots.put, Slots.get, Slots.keep, if_true, if_false, List.contains_cons, List.contains_nil, true_and, and_true, ↓ap_move, pop_move, ↓ap_binOp, pop_binOp, pBinX_int, pI_gtr, ↓ap_assign, pop_assign]
    repeat (with_reducible refine And.intro ?_ ?_; · first | trivial | omega | (intro hg; simp only [Bool.and_eq_true, Bool.or_eq_true, Bool.not_eq_true', Bool.and_eq_false_iff, Bool.or_eq_false_iff, Bool.not_eq_false', decide_eq_true_eq, decide_eq_false_iff_not, eqNil] at hg; omega))
    apply hK; clear hK K
    refine awp_cond (b := _) rfl (fun hb2 => ?_) (fun hb2 => ?_)
    · try simp only [decide_eq_true_eq, decide_eq_false_iff_not, Bool.not_eq_true', Bool.not_eq_false', Bool.and_eq_true, Bool.and_eq_false_iff, Bool.or_eq_true, Bool.or_eq_false_iff, Bool.true_eq, Bool.false_eq, reduceCtorEq] at hb2
      -- region 4  chars.go:81
      refine awp_rseq [2] (by rfl) fun K hK => ?_
      simp (decide := true) only [aOps_nil, ev, absV, absS, putD, Slots.put, Slots.get, Slots.keep, if_true, if_false, List.contains_cons, List.contains_nil, true_and, and_true, ↓ap_assign, pop_assign]
      repeat (with_reducible refine And.intro ?_ ?_; · first | trivial | omega | (intro hg; simp only [Bool.and_eq_true, Bool.or_eq_true, Bool.not_eq_true', Bool.and_eq_false_iff, Bool.or_eq_false_iff, Bool.not_eq_false', decide_eq_true_eq, decide_eq_false_iff_not, eqNil] at hg; omega))
      apply hK; clear hK K
      refine awp_ret ?_
      try simp only [thenA_ret, inBlockA_ret]
      refine retA_ret _ (Sub.refl _) (resPre_tmp (resPre_nil)) ?_
      simp (decide := true) only [aOps_nil, ev, absV, absS, putD, Slots.put, Slots.get, Slots.keep, if_true, if_false, List.contains_cons, List.contains_nil, true_and, and_true, resOf_one]
      all_goals first | rfl | exact ⟨rfl, rfl⟩ | (simp (decide := true) only [if_true, if_false, *]; done) | (trace_state; fail)
    · try simp only [decide_eq_true_eq, decide_eq_false_iff_not, Bool.not_eq_true', Bool.not_eq_false', Bool.and_eq_true, Bool.and_eq_false_iff, Bool.or_eq_true, Bool.or_eq_false_iff, Bool.true_eq, Bool.false_eq, reduceCtorEq] at hb2
      refine awp_skip ?_
      change Awp _ _ _ _ _ _ _
      -- region 5  chars.go:83
      refine awp_rseq [2] (by rfl) fun K hK => ?_
      simp (decide := true) only [aOps_nil, ev, absV, absS, putD, Slots.put, Slots.get, Slots.keep, if_true, if_false, List.contains_cons, List.contains_nil, true_and, and_true, ↓ap_assign, pop_assign]
      repeat (with_reducible refine And.intro ?_ ?_; · first | trivial | omega | (intro hg; simp only [Bool.and_eq_true, Bool.or_eq_true, Bool.not_eq_true', Bool.and_eq_false_iff, Bool.or_eq_false_iff, Bool.not_eq_false', decide_eq_true_eq, decide_eq_false_iff_not, eqNil] at hg; omega))
      apply hK; clear hK K
      refine awp_ret ?_
      try simp only [thenA_ret, inBlockA_ret]
      refine retA_ret _ (Sub.refl _) (resPre_tmp (resPre_nil)) ?_
      simp (decide := true) only [aOps_nil, ev, absV, absS, putD, Slots.put, Slots.get, Slots.keep, if_true, if_false, List.contains_cons, List.contains_nil, true_and, and_true, resOf_one]
      all_goals first | rfl | exact ⟨rfl, rfl⟩ | (simp (decide := true) only [if_true, if_false, *]; done) | (trace_state; fail)

theorem c_padded (w₀ : World) (h : AHeap) (v : AVal) (bs : List UInt8) (hb : IsB w₀ h v bs) (i : Nat) :
    ACall Try.prog w₀ 28 [v, .int .i64 i] h (fun r h' => r = .int .u8 (bs.getD i 32).toNat ∧ h' = h) := by
  refine acall_intro (n := 13) (rs := [.tmp 4]) Try.func28 rfl rfl rfl rfl (Nat.le_of_ble_eq_true rfl) ?_
  simp only [initSlots]
  -- region 0  chars.go:58
  refine awp_rseq [0, 1] (by rfl) fun K hK => ?_
  simp (decide := true) only [aOps_nil, ev, absV, absS, putD, Slots.put, Slots.get, Slots.keep, if_true, if_false, List.contains_cons, List.contains_nil, true_and, and_true, ↓ap_assign, pop_assign, hb.len Try.underlying25]
  repeat (with_reducible refine And.intro ?_ ?_; · first | trivial | omega | (intro hg; simp only [Bool.and_eq_true, Bool.or_eq_true, Bool.not_eq_true', Bool.and_eq_false_iff, Bool.or_eq_false_iff, Bool.not_eq_false', decide_eq_true_eq, decide_eq_false_iff_not, eqNil] at hg; omega))
  apply hK; clear hK K
  refine awp_seq ?_
  -- region 1  chars.go:59
  refine awp_rseq [0, 1, 8] (by rfl) fun K hK => ?_
  simp (decide := true) only [aOps_nil, ev, absV, absS, putD, Slots.put, Slots.get, Slots.keep, if_true, if_false, List.contains_cons, List.contains_nil, true_and, and_true, ↓ap_move, pop_move, ↓ap_len, pop_len, pLen_slice Try.underlying25, pLen_nil Try.underlying25, ↓ap_binOp, pop_binOp, pBinX_int, pI_geq, hb.len Try.underlying25]
  repeat (with_reducible refine And.intro ?_ ?_; · first | trivial | omega | (intro hg; simp only [Bool.and_eq_true, Bool.or_eq_true, Bool.not_eq_true', Bool.and_eq_false_iff, Bool.or_eq_false_iff, Bool.not_eq_false', decide_eq_true_eq, decide_eq_false_iff_not, eqNil] at hg; omega))
  apply hK; clear hK K
  refine awp_cond (b := _) rfl (fun hb1 => ?_) (fun hb1 => ?_)
  · try simp only [decide_eq_true_eq, decide_eq_false_iff_not, Bool.not_eq_true', Bool.not_eq_false', Bool.and_eq_true, Bool.and_eq_false_iff, Bool.or_eq_true, Bool.or_eq_false_iff, Bool.true_eq, Bool.false_eq, reduceCtorEq] at hb1
    -- region 2  chars.go:60
    refine awp_rseq [4] (by rfl) fun K hK => ?_
    simp (decide := true) only [aOps_nil, ev, absV, absS, putD, Slots.put, Slots.get, Slots.keep, if_true, if_false, List.contains_cons, List.contains_nil, true_and, and_true, ↓ap_assign, pop_assign, hb.len Try.underlying25]
    repeat (with_reducible refine And.intro ?_ ?_; · first | trivial | omega | (intro hg; simp only [Bool.and_eq_true, Bool.or_eq_true, Bool.not_eq_true', Bool.and_eq_false_iff, Bool.or_eq_false_iff, Bool.not_eq_false', decide_eq_true_eq, decide_eq_false_iff_not, eqNil] at hg; omega))
    apply hK; clear hK K
    refine awp_ret ?_
    try simp only [thenA_ret, inBlockA_ret]
    refine retA_ret _ (Sub.refl _) (resPre_tmp (resPre_nil)) ?_
    simp (decide := true) only [aOps_nil, ev, absV, absS, putD, Slots.put, Slots.get, Slots.keep, if_true, if_false, List.contains_cons, List.contains_nil, true_and, and_true, resOf_one, hb.len Try.underlying25]
    all_goals rw [List.getD, List.getElem?_eq_none (by omega)]; rfl
  · try simp only [decide_eq_true_eq, decide_eq_false_iff_not, Bool.not_eq_true', Bool.not_eq_false', Bool.and_eq_true, Bool.and_eq_false_iff, Bool.or_eq_true, Bool.or_eq_false_iff, Bool.true_eq, Bool.false_eq, reduceCtorEq] at hb1
    refine awp_skip ?_
    change Awp _ _ _ _ _ _ _
    -- region 3  chars.go:62
    refine awp_rseq [4] (by rfl) fun K hK => ?_
    simp (decide := true) only [aOps_nil, ev, absV, absS, putD, Slots.put, Slots.get, Slots.keep, if_true, if_false, List.contains_cons, List.contains_nil, true_and, and_true, ↓ap_move, pop_move, ↓ap_indexAddrL, apL_mk, pIndexAddr_slice Try.underlying25 sz5, ↓ap_loadL, pLoad_one ag5, ↓ap_assign, pop_assign, hb.len Try.underlying25, hb.idx Try.underlying25 sz5, Int.toNat_natCast, hb.load ag5 (i := i) (by omega)]
    repeat (with_reducible refine And.intro ?_ ?_; · first | trivial | omega | (intro hg; simp only [Bool.and_eq_true, Bool.or_eq_true, Bool.not_eq_true', Bool.and_eq_false_iff, Bool.or_eq_false_iff, Bool.not_eq_false', decide_eq_true_eq, decide_eq_false_iff_not, eqNil] at hg; omega))
    apply hK; clear hK K
    refine awp_ret ?_
    try simp only [thenA_ret, inBlockA_ret]
    refine retA_ret _ (Sub.refl _) (resPre_tmp (resPre_nil)) ?_
    simp (decide := true) only [aOps_nil, ev, absV, absS, putD, Slots.put, Slots.get, Slots.keep, if_true, if_false, List.contains_cons, List.contains_nil, true_and, and_true, resOf_one, hb.len Try.underlying25]
    all_goals rw [List.getD, List.getD, List.getElem?_eq_getElem (by omega)]; rfl

theorem c_isnan (w₀ : World) (h : AHeap) (x : Int) : ACall Try.prog w₀ 38 [.int .u8 x] h (fun v h' => v = .bool false ∧ h' = h) := by
  refine acall_intro (n := 6) (rs := [.tmp 2]) Try.func38 rfl rfl rfl rfl (Nat.le_of_ble_eq_true rfl) ?_
  simp only [initSlots]
  -- region 0  cmp.go:63
  refine awp_rseq [0] (by rfl) fun K hK => ?_
  simp (decide := true) only [aOps_nil, ev, absV, absS, putD, Slots.put, Slots.get, Slots.keep, if_true, if_false, List.contains_cons, List.contains_nil, true_and, and_true, ↓ap_assign, pop_assign]
  repeat (with_reducible refine And.intro ?_ ?_; · first | trivial | omega | (intro hg; simp only [Bool.and_eq_true, Bool.or_eq_true, Bool.not_eq_true', Bool.and_eq_false_iff, Bool.or_eq_false_iff, Bool.not_eq_false', decide_eq_true_eq, decide_eq_false_iff_not, eqNil] at hg; omega))
  apply hK; clear hK K
  -- region 1  cmp.go:64
  refine awp_rseq [2] (by rfl) fun K hK => ?_
  simp (decide := true) only [aOps_nil, ev, absV, absS, putD, Slots.put, Slots.get, Slots.keep, if_true, if_false, List.contains_cons, List.contains_nil, true_and, and_true, ↓ap_move, pop_move, ↓ap_binOp, pop_binOp, pBinX_int, pI_neq, ↓ap_assign, pop_assign]
  repeat (with_reducible refine And.intro ?_ ?_; · first | trivial | omega | (intro hg; simp only [Bool.and_eq_true, Bool.or_eq_true, Bool.not_eq_true', Bool.and_eq_false_iff, Bool.or_eq_false_iff, Bool.not_eq_false', decide_eq_true_eq, decide_eq_false_iff_not, eqNil] at hg; omega))
  apply hK; clear hK K
  refine awp_ret ?_
  try simp only [thenA_ret, inBlockA_ret]
  refine retA_ret _ (Sub.refl _) (resPre_tmp (resPre_nil)) ?_
  simp (decide := true) only [aOps_nil, ev, absV, absS, putD, Slots.put, Slots.get, Slots.keep, if_true, if_false, List.contains_cons, List.contains_nil, true_and, and_true, resOf_one]
  all_goals first | rfl | exact ⟨rfl, rfl⟩ | (simp (decide := true) only [if_true, if_false, *]; done) | (trace_state; fail)

theorem c_cmp (w₀ : World) (h : AHeap) (x y : Int) : ACall Try.prog w₀ 27 [.int .u8 x, .int .u8 y] h (fun v h' => v = .int .i64 (if x < y then -1 else if y < x then 1 else 0) ∧ h' = h) := by
  refine acall_intro (n := 20) (rs := [.tmp 4]) Try.func27 rfl rfl rfl rfl (Nat.le_of_ble_eq_true rfl) ?_
  simp only [initSlots]
  -- region 0  cmp.go:40
  refine awp_rseq [0, 1] (by rfl) fun K hK => ?_
  simp (decide := true) only [aOps_nil, ev, absV, absS, putD, Slots.put, Slots.get, Slots.keep, if_true, if_false, List.contains_cons, List.contains_nil, true_and, and_true, ↓ap_assign, pop_assign]
  repeat (with_reducible refine And.intro ?_ ?_; · first | trivial | omega | (intro hg; simp only [Bool.and_eq_true, Bool.or_eq_true, Bool.not_eq_true', Bool.and_eq_false_iff, Bool.or_eq_false_iff, Bool.not_eq_false', decide_eq_true_eq, decide_eq_false_iff_not, eqNil] at hg; omega))
  apply hK; clear hK K
  -- region 1  cmp.go:41
  refine awp_rseq [0, 1, 5] (by rfl) fun K hK => ?_
  simp (decide := true) only [aOps_nil, ev, absV, absS, putD, Slots.put, Slots.get, Slots.keep, if_true, if_false, List.contains_cons, List.contains_nil, true_and, and_true, ↓ap_move, pop_move]
  repeat (with_reducible refine And.intro ?_ ?_; · first | trivial | omega | (intro hg; simp only [Bool.and_eq_true, Bool.or_eq_true, Bool.not_eq_true', Bool.and_eq_false_iff, Bool.or_eq_false_iff, Bool.not_eq_false', decide_eq_true_eq, decide_eq_false_iff_not, eqNil] at hg; omega))
  refine aOps_callV (V := .bool false) (by rfl) (by rfl) (c_isnan w₀ h x) ?_
  simp (decide := true) only [aOps_nil, ev, absV, absS, putD, Slots.put, Slots.get, Slots.keep, if_true, if_false, List.contains_cons, List.contains_nil, true_and, and_true, ↓ap_assign, pop_assign]
  repeat (with_reducible refine And.intro ?_ ?_; · first | trivial | omega | (intro hg; simp only [Bool.and_eq_true, Bool.or_eq_true, Bool.not_eq_true', Bool.and_eq_false_iff, Bool.or_eq_false_iff, Bool.not_eq_false', decide_eq_true_eq, decide_eq_false_iff_not, eqNil] at hg; omega))
  apply hK; clear hK K
  -- region 2  cmp.go:42
  refine awp_rseq [0, 1, 5, 6] (by rfl) fun K hK => ?_
  simp (decide := true) only [aOps_nil, ev, absV, absS, putD, Slots.put, Slots.get, Slots.keep, if_true, if_false, List.contains_cons, List.contains_nil, true_and, and_true, ↓ap_move, pop_move]
  repeat (with_reducible refine And.intro ?_ ?_; · first | trivial | omega | (intro hg; simp only [Bool.and_eq_true, Bool.or_eq_true, Bool.not_eq_true', Bool.and_eq_false_iff, Bool.or_eq_false_iff, Bool.not_eq_false', decide_eq_true_eq, decide_eq_false_iff_not, eqNil] at hg; omega))
  refine aOps_callV (V := .bool false) (by rfl) (by rfl) (c_isnan w₀ h y) ?_
  simp (decide := true) only [aOps_nil, ev, absV, absS, putD, Slots.put, Slots.get, Slots.keep, if_true, if_false, List.contains_cons, List.contains_nil, true_and, and_true, ↓ap_assign, pop_assign]
  repeat (with_reducible refine And.intro ?_ ?_; · first | trivial | omega | (intro hg; simp only [Bool.and_eq_true, Bool.or_eq_true, Bool.not_eq_true', Bool.and_eq_false_iff, Bool.or_eq_false_iff, Bool.not_eq_false', decide_eq_true_eq, decide_eq_false_iff_not, eqNil] at hg; omega))
  apply hK; clear hK K
  refine awp_seq ?_
  -- region 3  cmp.go:43
  refine awp_rseq [0, 1, 6, 11] (by rfl) fun K hK => ?_
  simp (decide := true) only [aOps_nil, ev, absV, absS, putD, Slots.put, Slots.get, Slots.keep, if_true, if_false, List.contains_cons, List.contains_nil, true_and, and_true, ↓ap_move, pop_move]
  repeat (with_reducible refine And.intro ?_ ?_; · first | trivial | omega | (intro hg; simp only [Bool.and_eq_true, Bool.or_eq_true, Bool.not_eq_true', Bool.and_eq_false_iff, Bool.or_eq_false_iff, Bool.not_eq_false', decide_eq_true_eq, decide_eq_false_iff_not, eqNil] at hg; omega))
  apply hK; clear hK K
  refine awp_cond (b := _) rfl (fun hb1 => ?_) (fun hb1 => ?_)
  · cases hb1
  · try simp only [decide_eq_true_eq, decide_eq_false_iff_not, Bool.not_eq_true', Bool.not_eq_false', Bool.and_eq_true, Bool.and_eq_false_iff, Bool.or_eq_true, Bool.or_eq_false_iff, Bool.true_eq, Bool.false_eq, reduceCtorEq] at hb1
    refine awp_skip ?_
    change Awp _ _ _ _ _ _ _
    refine awp_seq ?_
    -- region 7  cmp.go:49
    refine awp_rseq [0, 1, 13] (by rfl) fun K hK => ?_
    simp (decide := true) only [aOps_nil, ev, absV, absS, putD, Slots.put, Slots.get, Slots.keep, if_true, if_false, List.contains_cons, List.contains_nil, true_and, and_true, ↓ap_move, pop_move]
    repeat (with_reducible refine And.intro ?_ ?_; · first | trivial | omega | (intro hg; simp only [Bool.and_eq_true, Bool.or_eq_true, Bool.not_eq_true', Bool.and_eq_false_iff, Bool.or_eq_false_iff, Bool.not_eq_false', decide_eq_true_eq, decide_eq_false_iff_not, eqNil] at hg; omega))
    apply hK; clear hK K
    refine awp_cond (b := _) rfl (fun hb3 => ?_) (fun hb3 => ?_)
    · cases hb3
    · try simp only [decide_eq_true_eq, decide_eq_false_iff_not, Bool.not_eq_true', Bool.not_eq_false', Bool.and_eq_true, Bool.and_eq_false_iff, Bool.or_eq_true, Bool.or_eq_false_iff, Bool.true_eq, Bool.false_eq, reduceCtorEq] at hb3
      refine awp_skip ?_
      change Awp _ _ _ _ _ _ _
      refine awp_seq ?_
      -- region 9  cmp.go:52
      refine awp_rseq [0, 1, 16] (by rfl) fun K hK => ?_
      simp (decide := true) only [aOps_nil, ev, absV, absS, putD, Slots.put, Slots.get, Slots.keep, if_true, if_false, List.contains_cons, List.contains_nil, true_and, and_true, ↓ap_move, pop_move, ↓ap_binOp, pop_binOp, pBinX_int, pI_lss]
      repeat (with_reducible refine And.intro ?_ ?_; · first | trivial | omega | (intro hg; simp only [Bool.and_eq_true, Bool.or_eq_true, Bool.not_eq_true', Bool.and_eq_false_iff, Bool.or_eq_false_iff, Bool.not_eq_false', decide_eq_true_eq, decide_eq_false_iff_not, eqNil] at hg; omega))
      apply hK; clear hK K
      refine awp_cond (b := _) rfl (fun hb4 => ?_) (fun hb4 => ?_)
      · try simp only [decide_eq_true_eq, decide_eq_false_iff_not, Bool.not_eq_true', Bool.not_eq_false', Bool.and_eq_true, Bool.and_eq_false_iff, Bool.or_eq_true, Bool.or_eq_false_iff, Bool.true_eq, Bool.false_eq, reduceCtorEq] at hb4
        -- region 10  cmp.go:53
        refine awp_rseq [4] (by rfl) fun K hK => ?_
        simp (decide := true) only [aOps_nil, ev, absV, absS, putD, Slots.put, Slots.get, Slots.keep, if_true, if_false, List.contains_cons, List.contains_nil, true_and, and_true, ↓ap_assign, pop_assign]
        repeat (with_reducible refine And.intro ?_ ?_; · first | trivial | omega | (intro hg; simp only [Bool.and_eq_true, Bool.or_eq_true, Bool.not_eq_true', Bool.and_eq_false_iff, Bool.or_eq_false_iff, Bool.not_eq_false', decide_eq_true_eq, decide_eq_false_iff_not, eqNil] at hg; omega))
        apply hK; clear hK K
        refine awp_ret ?_
        try simp only [thenA_ret, inBlockA_ret]
        refine retA_ret _ (Sub.refl _) (resPre_tmp (resPre_nil)) ?_
        simp (decide := true) only [aOps_nil, ev, absV, absS, putD, Slots.put, Slots.get, Slots.keep, if_true, if_false, List.contains_cons, List.contains_nil, true_and, and_true, resOf_one]
        all_goals first | rfl | exact ⟨rfl, rfl⟩ | (simp (decide := true) only [if_true, if_false, *]; done) | (trace_state; fail)
      · try simp only [decide_eq_true_eq, decide_eq_false_iff_not, Bool.not_eq_true', Bool.not_eq_false', Bool.and_eq_true, Bool.and_eq_false_iff, Bool.or_eq_true, Bool.or_eq_false_iff, Bool.true_eq, Bool.false_eq, reduceCtorEq] at hb4
        refine awp_skip ?_
        change Awp _ _ _ _ _ _ _
        refine awp_seq ?_
        -- region 11  cmp.go:55
        refine awp_rseq [19] (by rfl) fun K hK => ?_
        simp (decide := true) only [aOps_nil, ev, absV, absS, putD, Slots.put, Slots.get, Slots.keep, if_true, if_false, List.contains_cons, List.contains_nil, true_and, and_true, ↓ap_move, pop_move, ↓ap_binOp, pop_binOp, pBinX_int, pI_gtr]
        repeat (with_reducible refine And.intro ?_ ?_; · first | trivial | omega | (intro hg; simp only [Bool.and_eq_true, Bool.or_eq_true, Bool.not_eq_true', Bool.and_eq_false_iff, Bool.or_eq_false_iff, Bool.not_eq_false', decide_eq_true_eq, decide_eq_false_iff_not, eqNil] at hg; omega))
        apply hK; clear hK K
        refine awp_cond (b := _) rfl (fun hb5 => ?_) (fun hb5 => ?_)
        · try simp only [decide_eq_true_eq, decide_eq_false_iff_not, Bool.not_eq_true', Bool.not_eq_false', Bool.and_eq_true, Bool.and_eq_false_iff, Bool.or_eq_true, Bool.or_eq_false_iff, Bool.true_eq, Bool.false_eq, reduceCtorEq] at hb5
          -- region 12  cmp.go:56
          refine awp_rseq [4] (by rfl) fun K hK => ?_
          simp (decide := true) only [aOps_nil, ev, absV, absS, putD, Slots.put, Slots.get, Slots.keep, if_true, if_false, List.contains_cons, List.contains_nil, true_and, and_true, ↓ap_assign, pop_assign]
          repeat (with_reducible refine And.intro ?_ ?_; · first | trivial | omega | (intro hg; simp only [Bool.and_eq_true, Bool.or_eq_true, Bool.not_eq_true', Bool.and_eq_false_iff, Bool.or_eq_false_iff, Bool.not_eq_false', decide_eq_true_eq, decide_eq_false_iff_not, eqNil] at hg; omega))
          apply hK; clear hK K
          refine awp_ret ?_
          try simp only [thenA_ret, inBlockA_ret]
          refine retA_ret _ (Sub.refl _) (resPre_tmp (resPre_nil)) ?_
          simp (decide := true) only [aOps_nil, ev, absV, absS, putD, Slots.put, Slots.get, Slots.keep, if_true, if_false, List.contains_cons, List.contains_nil, true_and, and_true, resOf_one]
          all_goals first | rfl | exact ⟨rfl, rfl⟩ | (simp (decide := true) only [if_true, if_false, *]; done) | (trace_state; fail)
        · try simp only [decide_eq_true_eq, decide_eq_false_iff_not, Bool.not_eq_true', Bool.not_eq_false', Bool.and_eq_true, Bool.and_eq_false_iff, Bool.or_eq_true, Bool.or_eq_false_iff, Bool.true_eq, Bool.false_eq, reduceCtorEq] at hb5
          refine awp_skip ?_
          change Awp _ _ _ _ _ _ _
          -- region 13  cmp.go:58
          refine awp_rseq [4] (by rfl) fun K hK => ?_
          simp (decide := true) only [aOps_nil, ev, absV, absS, putD, Slots.put, Slots.get, Slots.keep, if_true, if_false, List.contains_cons, List.contains_nil, true_and, and_true, ↓ap_assign, pop_assign]
          repeat (with_reducible refine And.intro ?_ ?_; · first | trivial | omega | (intro hg; simp only [Bool.and_eq_true, Bool.or_eq_true, Bool.not_eq_true', Bool.and_eq_false_iff, Bool.or_eq_false_iff, Bool.not_eq_false', decide_eq_true_eq, decide_eq_false_iff_not, eqNil] at hg; omega))
          apply hK; clear hK K
          refine awp_ret ?_
          try simp only [thenA_ret, inBlockA_ret]
          refine retA_ret _ (Sub.refl _) (resPre_tmp (resPre_nil)) ?_
          simp (decide := true) only [aOps_nil, ev, absV, absS, putD, Slots.put, Slots.get, Slots.keep, if_true, if_false, List.contains_cons, List.contains_nil, true_and, and_true, resOf_one]
          all_goals first | rfl | exact ⟨rfl, rfl⟩ | (simp (decide := true) only [if_true, if_false, *]; done) | (trace_state; fail)
end Go.Proofs.Ytmnlmfiokbnhhaa
