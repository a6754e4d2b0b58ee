/-
  Contracts: Parse, Text, ToInt, Int of the package decimals, and what they call.
  Conditions: none.
-/
import Derived.Test.YthiiakghjoeikaaGreatDoorDcK
import Derived.Lib.ParseIntB
set_option linter.unusedSimpArgs false
set_option linter.unnecessarySimpa false
set_option linter.unusedVariables false
namespace Go.Proofs.YthiiakghjoeikaaGreatDoor
open Go.AM
open Go.Proofs
open Go.Dec
open Go.Lib (decDigits)
set_option maxRecDepth 100000

/-! ### strings.Cut at one byte -/
theorem indexByte_eq (c : UInt8) : ∀ s : List UInt8, Lib.indexByte s c = if c ∈ s then ((s.takeWhile (· != c)).length : Int) else -1
  | [] => by simp [Lib.indexByte]
  | b :: s => by
    have ih := indexByte_eq c s
    unfold Lib.indexByte
    by_cases e : b = c
    · subst e; simp
    · have e1 : (b == c) = false := by simpa using e
      have e2 : (b != c) = true := by simpa using e
      have e3 : ¬ c = b := fun h => e h.symm
      rw [e1, ih]
      by_cases hm : c ∈ s
      · simp only [hm, if_true, List.mem_cons, e3, or_true, List.takeWhile_cons, e2, List.length_cons, Bool.false_eq_true, if_false]
        have : ((((s.takeWhile (· != c)).length : Int) == -1) = false) := by simp
        rw [this]
        simp
      · simp [hm, e3]
def cutP (s : List UInt8) (c : UInt8) : List UInt8 × List UInt8 × Bool := if c ∈ s then (s.takeWhile (· != c), (s.dropWhile (· != c)).drop 1, true) else (s, [], false)
theorem drop_while_ne (c : UInt8) : ∀ s : List UInt8, c ∈ s → s.dropWhile (· != c) ≠ []
  | b :: s, hm => by
    rw [List.dropWhile_cons]
    split
    · rename_i hb
      have e : c ≠ b := fun e => by subst e; simp at hb
      exact drop_while_ne c s ((List.mem_cons.1 hm).resolve_left e)
    · simp
theorem numB_all {s : List UInt8} (h : numB s = true) : s.all dg = true := by
  unfold numB at h
  rw [Bool.and_eq_true] at h
  exact h.2
theorem take_while_len (s : List UInt8) (c : UInt8) : (s.takeWhile (· != c)).length ≤ s.length ∧ (c ∈ s → (s.takeWhile (· != c)).length < s.length) := by
  have h := congrArg List.length (List.takeWhile_append_dropWhile (p := (· != c)) (l := s))
  rw [List.length_append] at h
  refine ⟨by omega, fun hm => ?_⟩
  have := List.length_pos_iff.2 (drop_while_ne c s hm)
  omega
theorem c_indexByte (w₀ : World) (h : AHeap) (s : List UInt8) (c : UInt8) : ACall Tryz.prog w₀ 112 [.str s, .int .u8 c.toNat] h (fun v h' => v = .int .i64 (Lib.indexByte s c) ∧ h' = h) := by
  refine acall_of_calls (vals := [.string ⟨⟨s⟩⟩, .int .u8 c.toNat]) (val := .int .i64 (Lib.indexByte s c)) Tryz.func112 rfl rfl (fun φ vs hv => VRs_si hv) (fun φ => rfl) fun w => ?_
  refine (Tryz.stringslite_IndexByte ⟨⟨s⟩⟩ (c.toNat : Int) w).mono fun e w' ⟨e1, e2⟩ => ⟨?_, ?_⟩
  · rw [e1]
    simp
  · subst e2; exact Go.RowKit.Below.refl _ _
theorem c_index1 (w₀ : World) (h : AHeap) (s : List UInt8) (c : UInt8) (hl : s.length ≤ 9223372036854775807) :
    ACall Tryz.prog w₀ 92 [.str s, .str [c]] h (fun v h' => v = .int .i64 (Lib.indexByte s c) ∧ h' = h) := by
  refine acall_intro (n := 143) (rs := [.tmp 4]) Tryz.func92 rfl rfl rfl rfl (Nat.le_of_ble_eq_true rfl) ?_
  simp only [initSlots]
  -- region 0  strings.go:28
  refine awp_rseq [0, 1] (by rfl) fun K hK => ?_
  simp (decide := true) only [aOps_nil, ev, absV, absS, putD, Slots.put, Slots.keep, if_true, if_false, true_and, ↓ap_assign, pop_assign, Nat.zero_add]
  repeat (with_reducible refine And.intro ?_ ?_; · first | trivial | omega | (intro hg; simp only [Bool.and_eq_true, Bool.or_eq_true, Bool.not_eq_true', Bool.and_eq_false_iff, Bool.or_eq_false_iff, Bool.not_eq_false', decide_eq_true_eq, decide_eq_false_iff_not, eqNil] at hg; omega) )
  apply hK; clear hK K
  -- region 1  strings.go:29
  refine awp_rseq [0, 1, 5] (by rfl) fun K hK => ?_
  simp (decide := true) only [aOps_nil, ev, putD, Slots.put, Slots.get, Slots.keep, if_true, if_false, true_and, ↓ap_move, pop_move, ↓ap_len, pop_len, pLen_str Tryz.underlying9, ↓ap_assign, pop_assign, List.length_cons, List.length_nil, Nat.zero_add, show ((1 : Nat) : Int) = 1 from rfl]
  repeat (with_reducible refine And.intro ?_ ?_; · first | trivial | omega | (intro hg; simp only [Bool.and_eq_true, Bool.or_eq_true, Bool.not_eq_true', Bool.and_eq_false_iff, Bool.or_eq_false_iff, Bool.not_eq_false', decide_eq_true_eq, decide_eq_false_iff_not, eqNil] at hg; omega) )
  apply hK; clear hK K
  refine awp_seq ?_
  refine awp_block ?_
  -- region 2  strings.go:31
  refine awp_rseq [0, 1, 5, 16] (by rfl) fun K hK => ?_
  simp (decide := true) only [aOps_nil, ev, absV, absS, putD, Slots.put, Slots.get, Slots.keep, if_true, if_false, true_and, ↓ap_move, pop_move, ↓ap_binOp, pop_binOp, isNilC_int, cond_false, pBinX_int, pI_eql, ↓ag_move, agP, agQ_some, nthDst, gKnown_bool, guardB_bool_false, implies_true, decide_false, Bool.not_false, condV_true, Bool.false_or, ↓ag_binOp, isNilC_tmp, pBinX_str, pS_eql, ↓ap_pick, pop_pick, pPick_bool, pickV_or, ↓ap_assign, pop_assign]
  repeat (with_reducible refine And.intro ?_ ?_; · first | trivial | omega | (intro hg; simp only [Bool.and_eq_true, Bool.or_eq_true, Bool.not_eq_true', Bool.and_eq_false_iff, Bool.or_eq_false_iff, Bool.not_eq_false', decide_eq_true_eq, decide_eq_false_iff_not, eqNil] at hg; omega) )
  apply hK; clear hK K
  refine awp_cond (b := _) rfl (fun hb1 => ?_) (fun hb1 => ?_)
  · try simp only [decide_eq_true_eq] at hb1
    -- region 3  strings.go:32
    refine awp_rseq [4] (by rfl) fun K hK => ?_
    simp (decide := true) only [aOps_nil, ev, absV, absS, putD, Slots.put, Slots.keep, if_true, if_false, true_and, ↓ap_assign, pop_assign]
    repeat (with_reducible refine And.intro ?_ ?_; · first | trivial | omega | (intro hg; simp only [Bool.and_eq_true, Bool.or_eq_true, Bool.not_eq_true', Bool.and_eq_false_iff, Bool.or_eq_false_iff, Bool.not_eq_false', decide_eq_true_eq, decide_eq_false_iff_not, eqNil] at hg; omega) )
    apply hK; clear hK K
    refine awp_ret ?_
    try simp only [thenA_ret, inBlockA_ret]
    refine retA_ret _ (Sub.refl _) (resPre_tmp (resPre_nil)) ?_
    simp (decide := true) only [Slots.get, if_true, and_true, resOf_one]
    rw [← hb1]; simp [Lib.indexByte]
  · try simp only [decide_eq_false_iff_not] at hb1
    -- region 4  strings.go:33
    refine awp_rseq [0, 1, 5, 24] (by rfl) fun K hK => ?_
    simp (decide := true) only [aOps_nil, ev, absV, absS, putD, Slots.put, Slots.get, Slots.keep, if_true, if_false, true_and, ↓ap_move, pop_move, ↓ap_binOp, pop_binOp, isNilC_int, cond_false, pBinX_int, pI_eql, ↓ap_assign, pop_assign]
    repeat (with_reducible refine And.intro ?_ ?_; · first | trivial | omega | (intro hg; simp only [Bool.and_eq_true, Bool.or_eq_true, Bool.not_eq_true', Bool.and_eq_false_iff, Bool.or_eq_false_iff, Bool.not_eq_false', decide_eq_true_eq, decide_eq_false_iff_not, eqNil] at hg; omega) )
    apply hK; clear hK K
    refine awp_cond (b := _) rfl (fun hb2 => ?_) (fun hb2 => ?_)
    · try simp only [decide_eq_true_eq] at hb2
      -- region 5  strings.go:34
      refine awp_rseq [4] (by rfl) fun K hK => ?_
      simp (decide := true) only [ev, absV, absS, putD, Slots.put, Slots.get, if_true, if_false, true_and, and_true, ↓ap_move, pop_move, ↓ap_index, pop_index, pIndex_str Tryz.underlying9, List.length_cons, List.length_nil, Nat.zero_add, List.getD_cons_zero, Int.toNat_zero, show ((1 : Nat) : Int) = 1 from rfl]
      repeat (with_reducible refine And.intro ?_ ?_; · first | trivial | omega | (intro hg; simp only [Bool.and_eq_true, Bool.or_eq_true, Bool.not_eq_true', Bool.and_eq_false_iff, Bool.or_eq_false_iff, Bool.not_eq_false', decide_eq_true_eq, decide_eq_false_iff_not, eqNil] at hg; omega) )
      refine aOps_callV (V := .int .i64 (Lib.indexByte s c)) (by rfl) (by rfl) (c_indexByte w₀ _ s c) ?_
      simp (decide := true) only [aOps_nil, ev, putD, Slots.put, Slots.get, Slots.keep, if_true, if_false, true_and, ↓ap_assign, pop_assign]
      repeat (with_reducible refine And.intro ?_ ?_; · first | trivial | omega | (intro hg; simp only [Bool.and_eq_true, Bool.or_eq_true, Bool.not_eq_true', Bool.and_eq_false_iff, Bool.or_eq_false_iff, Bool.not_eq_false', decide_eq_true_eq, decide_eq_false_iff_not, eqNil] at hg; omega) )
      apply hK; clear hK K
      refine awp_ret ?_
      try simp only [thenA_ret, inBlockA_ret]
      refine retA_ret _ (Sub.refl _) (resPre_tmp (resPre_nil)) ?_
      simp (decide := true) only [Slots.get, if_true, and_true, resOf_one]
      all_goals first | rfl | exact ⟨rfl, rfl⟩ | (simp (decide := true) only [if_true, if_false, *]; done) | (trace_state; fail)
    · try simp only [decide_eq_false_iff_not] at hb2
      exact absurd trivial hb2
theorem c_cut1L (w₀ : World) (h : AHeap) (s : List UInt8) (c : UInt8) (hl : s.length ≤ 9223372036854775807) :
    ACall Tryz.prog w₀ 65 [.str s, .str [c]] h (fun v h' => v = .tuple [.str (cutP s c).1, .str (cutP s c).2.1, .bool (cutP s c).2.2] ∧ h' = h) := by
  have hi := indexByte_eq c s
  obtain ⟨t1, t2⟩ := take_while_len s c
  have hib : -1 ≤ Lib.indexByte s c ∧ Lib.indexByte s c < s.length ∨ Lib.indexByte s c = -1 := by
    rw [hi]
    split
    · rename_i hm
      have := t2 hm
      omega
    · exact .inr rfl
  refine acall_intro (n := 23) (rs := [.tmp 4, .tmp 5, .tmp 6]) Tryz.func65 rfl rfl rfl rfl (Nat.le_of_ble_eq_true rfl) ?_
  simp only [initSlots]
  -- region 0  strings.go:80
  refine awp_rseq [0, 1] (by rfl) fun K hK => ?_
  simp (decide := true) only [aOps_nil, ev, absV, absS, putD, Slots.put, Slots.keep, if_true, if_false, true_and, ↓ap_assign, pop_assign, Nat.zero_add]
  repeat (with_reducible refine And.intro ?_ ?_; · first | trivial | omega | (intro hg; simp only [Bool.and_eq_true, Bool.or_eq_true, Bool.not_eq_true', Bool.and_eq_false_iff, Bool.or_eq_false_iff, Bool.not_eq_false', decide_eq_true_eq, decide_eq_false_iff_not, eqNil] at hg; omega) | (simp only [List.length_append, List.length_map, List.length_range, List.length_replicate, List.length_take, List.length_drop, List.length_cons, List.length_nil, List.length_set, List.length_reverse]; omega))
  apply hK; clear hK K
  refine awp_seq ?_
  -- region 1  strings.go:81
  refine awp_rseq [0, 1, 7] (by rfl) fun K hK => ?_
  simp (decide := true) only [ev, putD, Slots.put, Slots.get, if_true, if_false, true_and, ↓ap_move, pop_move]
  repeat (with_reducible refine And.intro ?_ ?_; · first | trivial | omega | (intro hg; simp only [Bool.and_eq_true, Bool.or_eq_true, Bool.not_eq_true', Bool.and_eq_false_iff, Bool.or_eq_false_iff, Bool.not_eq_false', decide_eq_true_eq, decide_eq_false_iff_not, eqNil] at hg; omega) | (simp only [List.length_append, List.length_map, List.length_range, List.length_replicate, List.length_take, List.length_drop, List.length_cons, List.length_nil, List.length_set, List.length_reverse]; omega))
  refine aOps_callV (V := .int .i64 (Lib.indexByte s c)) (by rfl) (by rfl) (c_index1 w₀ _ s c hl) ?_
  simp (decide := true) only [aOps_nil, ev, putD, Slots.put, Slots.get, Slots.keep, if_true, if_false, true_and, ↓ap_assign, pop_assign]
  repeat (with_reducible refine And.intro ?_ ?_; · first | trivial | omega | (intro hg; simp only [Bool.and_eq_true, Bool.or_eq_true, Bool.not_eq_true', Bool.and_eq_false_iff, Bool.or_eq_false_iff, Bool.not_eq_false', decide_eq_true_eq, decide_eq_false_iff_not, eqNil] at hg; omega) | (simp only [List.length_append, List.length_map, List.length_range, List.length_replicate, List.length_take, List.length_drop, List.length_cons, List.length_nil, List.length_set, List.length_reverse]; omega))
  apply hK; clear hK K
  -- region 2  strings.go:81
  refine awp_rseq [0, 1, 7, 12] (by rfl) fun K hK => ?_
  simp (decide := true) only [aOps_nil, ev, absV, absS, putD, Slots.put, Slots.get, Slots.keep, if_true, if_false, true_and, ↓ap_move, pop_move, ↓ap_binOp, pop_binOp, isNilC_int, cond_false, pBinX_int, pI_geq]
  repeat (with_reducible refine And.intro ?_ ?_; · first | trivial | omega | (intro hg; simp only [Bool.and_eq_true, Bool.or_eq_true, Bool.not_eq_true', Bool.and_eq_false_iff, Bool.or_eq_false_iff, Bool.not_eq_false', decide_eq_true_eq, decide_eq_false_iff_not, eqNil] at hg; omega) | (simp only [List.length_append, List.length_map, List.length_range, List.length_replicate, List.length_take, List.length_drop, List.length_cons, List.length_nil, List.length_set, List.length_reverse]; omega))
  apply hK; clear hK K
  refine awp_cond (b := _) rfl (fun hb1 => ?_) (fun hb1 => ?_)
  · try simp only [decide_eq_true_eq] at hb1
    -- region 3  strings.go:82
    refine awp_dseq_all [4, 5, 6] mixed (by kernel_rfl) (by rfl) (by rfl) fun K hK => ?_
    simp (decide := true) only [ev, putD, Slots.put, Slots.get, if_true, if_false, true_and, ↓ap_move, pop_move, ↓ap_slice, pop_slice, evO, pSliceS_0i Tryz.underlying9, pSliceS_i0 Tryz.underlying9, pSliceS, bndA_none, bndA_int, ↓ap_len, pop_len, pLen_str Tryz.underlying9, ↓ap_binOp, pop_binOp, isNilC_tmp, cond_false, pBinX_int, pI_add, List.length_cons, List.length_nil, Nat.zero_add, show ((1 : Nat) : Int) = 1 from rfl]
    try simp (disch := omega) only [wrap_i64]
    try simp (decide := true) only [aOps_nil, ev, absV, absS, putD, Slots.put, Slots.get, Slots.keep, if_true, if_false, true_and, ↓ap_assign, pop_assign]
    repeat (with_reducible refine And.intro ?_ ?_; · first | trivial | omega | (intro hg; simp only [Bool.and_eq_true, Bool.or_eq_true, Bool.not_eq_true', Bool.and_eq_false_iff, Bool.or_eq_false_iff, Bool.not_eq_false', decide_eq_true_eq, decide_eq_false_iff_not, eqNil] at hg; omega) | (simp only [List.length_append, List.length_map, List.length_range, List.length_replicate, List.length_take, List.length_drop, List.length_cons, List.length_nil, List.length_set, List.length_reverse]; omega))
    apply hK; clear hK K
    refine awp_ret ?_
    try simp only [thenA_ret]
    refine retA_ret _ (Sub.refl _) (resPre_tmp (resPre_tmp (resPre_tmp (resPre_nil)))) ?_
    simp (decide := true) only [Slots.get, if_true, if_false, and_true, resOf_three]
    have hm : c ∈ s := by
      refine Classical.byContradiction fun hn => ?_
      rw [if_neg hn] at hi
      omega
    rw [if_pos hm] at hi
    have e1 := List.take_left (l₁ := s.takeWhile (· != c)) (l₂ := s.dropWhile (· != c))
    have e2 := List.drop_left (l₁ := s.takeWhile (· != c)) (l₂ := s.dropWhile (· != c))
    rw [List.takeWhile_append_dropWhile] at e1 e2
    rw [cutP, if_pos hm, hi]
    have e3 : (((s.takeWhile (· != c)).length : Int) + 1).toNat = (s.takeWhile (· != c)).length + 1 := by omega
    simp only [Int.toNat_natCast, Nat.sub_zero, List.drop_zero, e1, e3]
    rw [List.take_of_length_le (by rw [List.length_drop]; omega), ← List.drop_drop, e2]
  · try simp only [decide_eq_false_iff_not] at hb1
    refine awp_skip ?_
    change Awp _ _ _ _ _ _ _
    -- region 4  strings.go:84
    refine awp_rseq [4, 5, 6] (by rfl) fun K hK => ?_
    simp (decide := true) only [aOps_nil, ev, absV, absS, putD, Slots.put, Slots.get, Slots.keep, if_true, if_false, true_and, ↓ap_move, pop_move, ↓ap_assign, pop_assign]
    repeat (with_reducible refine And.intro ?_ ?_; · first | trivial | omega | (intro hg; simp only [Bool.and_eq_true, Bool.or_eq_true, Bool.not_eq_true', Bool.and_eq_false_iff, Bool.or_eq_false_iff, Bool.not_eq_false', decide_eq_true_eq, decide_eq_false_iff_not, eqNil] at hg; omega) | (simp only [List.length_append, List.length_map, List.length_range, List.length_replicate, List.length_take, List.length_drop, List.length_cons, List.length_nil, List.length_set, List.length_reverse]; omega))
    apply hK; clear hK K
    refine awp_ret ?_
    try simp only [thenA_ret, inBlockA_ret]
    refine retA_ret _ (Sub.refl _) (resPre_tmp (resPre_tmp (resPre_tmp (resPre_nil)))) ?_
    simp (decide := true) only [Slots.get, if_true, if_false, and_true, resOf_three]
    have hm : c ∉ s := fun hm => by
      rw [if_pos hm] at hi
      omega
    rw [cutP, if_neg hm]
theorem c_cut1 (w₀ : World) (h : AHeap) (s : List UInt8) (c : UInt8) (hl : s.length ≤ 9223372036854775807) :
    ACall Tryz.prog w₀ 43 [.str s, .str [c]] h (fun v h' => v = .tuple [.str (cutP s c).1, .str (cutP s c).2.1, .bool (cutP s c).2.2] ∧ h' = h) := by
  refine acall_intro (n := 13) (rs := [.tmp 4, .tmp 5, .tmp 6]) Tryz.func43 rfl rfl rfl rfl (Nat.le_of_ble_eq_true rfl) ?_
  simp only [initSlots]
  -- region 0  strings.go:1271
  refine awp_rseq [0, 1] (by rfl) fun K hK => ?_
  simp (decide := true) only [aOps_nil, ev, absV, absS, putD, Slots.put, Slots.keep, if_true, if_false, true_and, ↓ap_assign, pop_assign]
  repeat (with_reducible refine And.intro ?_ ?_; · first | trivial | omega | (intro hg; simp only [Bool.and_eq_true, Bool.or_eq_true, Bool.not_eq_true', Bool.and_eq_false_iff, Bool.or_eq_false_iff, Bool.not_eq_false', decide_eq_true_eq, decide_eq_false_iff_not, eqNil] at hg; omega) )
  apply hK; clear hK K
  -- region 1  strings.go:1272
  refine awp_rseq [4, 5, 6] (by rfl) fun K hK => ?_
  simp (decide := true) only [ev, putD, Slots.put, Slots.get, if_true, if_false, true_and, ↓ap_move, pop_move]
  repeat (with_reducible refine And.intro ?_ ?_; · first | trivial | omega | (intro hg; simp only [Bool.and_eq_true, Bool.or_eq_true, Bool.not_eq_true', Bool.and_eq_false_iff, Bool.or_eq_false_iff, Bool.not_eq_false', decide_eq_true_eq, decide_eq_false_iff_not, eqNil] at hg; omega) )
  refine aOps_callV (V := .tuple [.str (cutP s c).1, .str (cutP s c).2.1, .bool (cutP s c).2.2]) (by rfl) (by rfl) (c_cut1L w₀ _ s c hl) ?_
  simp (decide := true) only [aOps_nil, ev, putD, Slots.put, Slots.get, Slots.keep, if_true, if_false, true_and, ↓ap_extract, pop_extract, pExt_tuple, List.length_cons, List.length_nil, List.getD_cons_zero, List.getD_cons_succ, ↓ap_assign, pop_assign]
  repeat (with_reducible refine And.intro ?_ ?_; · first | trivial | omega | (intro hg; simp only [Bool.and_eq_true, Bool.or_eq_true, Bool.not_eq_true', Bool.and_eq_false_iff, Bool.or_eq_false_iff, Bool.not_eq_false', decide_eq_true_eq, decide_eq_false_iff_not, eqNil] at hg; omega) )
  apply hK; clear hK K
  refine awp_ret ?_
  try simp only [thenA_ret, inBlockA_ret]
  refine retA_ret _ (Sub.refl _) (resPre_tmp (resPre_tmp (resPre_tmp (resPre_nil)))) ?_
  simp (decide := true) only [Slots.get, if_true, if_false, and_true, resOf_three]
  all_goals first | rfl | exact ⟨rfl, rfl⟩ | (simp (decide := true) only [if_true, if_false, *]; done) | (trace_state; fail)

/-! ### Parse -/
def parseE (s : List UInt8) : D × Int :=
  if 1000 < s.length then (noD, 4) else
  let rest := if [45].isPrefixOf s = true then Lib.trimPrefix s [45] else Lib.trimPrefix s [43]
  if ((cutP rest 46).2.2 = true ∧ (cutP rest 46).2.1 = []) ∨ numB ((cutP rest 46).1 ++ (cutP rest 46).2.1) = false then (noD, 4)
  else normE ([45].isPrefixOf s) (natOf ((cutP rest 46).1 ++ (cutP rest 46).2.1)) (cutP rest 46).2.1.length
theorem cutP_len (s : List UInt8) (c : UInt8) : (cutP s c).1.length + (cutP s c).2.1.length ≤ s.length := by
  unfold cutP
  have h := congrArg List.length (List.takeWhile_append_dropWhile (p := (· != c)) (l := s))
  rw [List.length_append] at h
  split
  · simp only [List.length_drop]; omega
  · simp
theorem trimPrefix_len (s p : List UInt8) : (Lib.trimPrefix s p).length ≤ s.length := by
  unfold Lib.trimPrefix
  split
  · simp
  · exact Nat.le_refl _
theorem c_Parse (w₀ : World) (h : AHeap) (s : List UInt8) (hl : s.length ≤ 9223372036854775807) :
    ACall Tryz.prog w₀ 15 [.str s] h (fun v h' => v = .tuple [decA (parseE s).1, .int .i64 (parseE s).2] ∧ h' = h) := by
  refine acall_intro (n := 50) (rs := [.cell 2 27, .tmp 3]) Tryz.func15 rfl rfl rfl rfl (Nat.le_of_ble_eq_true rfl) ?_
  simp only [initSlots]
  -- region 0  decimals.go:100
  refine awp_rseq [0, 2] (by rfl) fun K hK => ?_
  refine aOps_alloc ze27 (cs := [.bool false, .str [], .int .i64 0]) (by rfl) fun k0q0 hk0q0 => ?_
  try have hf_0q0 : h k0q0 = none := by first | assumption | (simp only [AHeap.set_none] at hk0q0; simp only [hk0q0])
  simp (decide := true) only [aOps_nil, ev, absV, absS, putD, Slots.put, Slots.keep, if_true, if_false, true_and, ↓ap_assign, pop_assign]
  repeat (with_reducible refine And.intro ?_ ?_; · first | trivial | omega | (intro hg; simp only [Bool.and_eq_true, Bool.or_eq_true, Bool.not_eq_true', Bool.and_eq_false_iff, Bool.or_eq_false_iff, Bool.not_eq_false', decide_eq_true_eq, decide_eq_false_iff_not, eqNil] at hg; omega) | (simp only [List.length_append, List.length_map, List.length_range, List.length_replicate, List.length_take, List.length_drop, List.length_cons, List.length_nil, List.length_set, List.length_reverse]; omega))
  apply hK; clear hK K
  refine awp_seq ?_
  -- region 1  decimals.go:101
  refine awp_rseq [0, 2, 11] (by rfl) fun K hK => ?_
  simp (decide := true) only [aOps_nil, ev, absV, absS, putD, Slots.put, Slots.get, Slots.keep, if_true, if_false, true_and, ↓ap_move, pop_move, ↓ap_len, pop_len, pLen_str Tryz.underlying9, ↓ap_binOp, pop_binOp, isNilC_int, cond_false, pBinX_int, pI_gtr]
  repeat (with_reducible refine And.intro ?_ ?_; · first | trivial | omega | (intro hg; simp only [Bool.and_eq_true, Bool.or_eq_true, Bool.not_eq_true', Bool.and_eq_false_iff, Bool.or_eq_false_iff, Bool.not_eq_false', decide_eq_true_eq, decide_eq_false_iff_not, eqNil] at hg; omega) | (simp only [List.length_append, List.length_map, List.length_range, List.length_replicate, List.length_take, List.length_drop, List.length_cons, List.length_nil, List.length_set, List.length_reverse]; omega))
  apply hK; clear hK K
  refine awp_cond (b := _) rfl (fun hb1 => ?_) (fun hb1 => ?_)
  · try simp only [decide_eq_true_eq] at hb1
    -- region 2  decimals.go:102
    refine awp_rseq [2, 3] (by rfl) fun K hK => ?_
    simp (decide := true) only [ev, absV, absS, putD, Slots.put, Slots.get, if_false, true_and, ↓ap_build, ↓pop_buildL, bld27_, evP, List.map_nil]
    repeat (with_reducible refine And.intro ?_ ?_; · first | trivial | omega | (intro hg; simp only [Bool.and_eq_true, Bool.or_eq_true, Bool.not_eq_true', Bool.and_eq_false_iff, Bool.or_eq_false_iff, Bool.not_eq_false', decide_eq_true_eq, decide_eq_false_iff_not, eqNil] at hg; omega) | (simp only [List.length_append, List.length_map, List.length_range, List.length_replicate, List.length_take, List.length_drop, List.length_cons, List.length_nil, List.length_set, List.length_reverse]; omega))
    refine aOps_store (by rfl) (by rfl) (by repeat (first | exact AHeap.set_same _ _ _ | assumption | refine (AHeap.set_ne _ _ (by first | assumption | exact Ne.symm (by assumption))).trans ?_)) sz27 (by rfl) (by rfl) (by first | exact Nat.le_refl _ | decide | (simp; done) | (simp; omega)) (Nat.zero_le _) (by rfl) ?_
    simp only [AHeap.set_set, AVal.cells]
    simp (decide := true) only [aOps_nil, ev, absV, absS, putD, Slots.put, Slots.get, Slots.keep, if_true, if_false, true_and, ↓ap_assign, pop_assign, setAt, List.set_cons_zero, List.set_cons_succ, Nat.zero_add, Nat.reduceAdd]
    repeat (with_reducible refine And.intro ?_ ?_; · first | trivial | omega | (intro hg; simp only [Bool.and_eq_true, Bool.or_eq_true, Bool.not_eq_true', Bool.and_eq_false_iff, Bool.or_eq_false_iff, Bool.not_eq_false', decide_eq_true_eq, decide_eq_false_iff_not, eqNil] at hg; omega) | (simp only [List.length_append, List.length_map, List.length_range, List.length_replicate, List.length_take, List.length_drop, List.length_cons, List.length_nil, List.length_set, List.length_reverse]; omega))
    apply hK; clear hK K
    refine awp_ret ?_
    try simp only [thenA_ret]
    refine retA_ret h (by repeat (first | exact Sub.refl _ | refine Sub.trans_set ?_ (by assumption))) (?_) ?_
    · simp (decide := true) only [resPre, resV_tmp, resV_cell, Slots.get, if_true, if_false, and_true, resV_tmp, resV_cell, pLoad_agg ag27 sz27, rd_set, cellsAt, List.getD_cons_zero, List.getD_cons_succ, Nat.zero_add, Nat.reduceAdd, lv_bool, lv_int, lv_str, allLive, Bool.and_true, cellsAt, List.getD_cons_zero, List.getD_cons_succ, Nat.zero_add, Nat.reduceAdd, lv_bool, lv_int, lv_str, allLive, Bool.and_true]
    
    simp (decide := true) only [Slots.get, if_true, if_false, and_true, resOfG_two, resV_tmp, resV_cell, pLoad_agg ag27 sz27, rd_set, cellsAt, List.getD_cons_zero, List.getD_cons_succ, Nat.zero_add, Nat.reduceAdd, lv_bool, lv_int, lv_str, allLive, Bool.and_true, cellsAt, List.getD_cons_zero, List.getD_cons_succ, Nat.zero_add, Nat.reduceAdd, lv_bool, lv_int, lv_str, allLive, Bool.and_true, decA]
    rw [parseE, if_pos (by omega)]
    rfl
  · try simp only [decide_eq_false_iff_not] at hb1
    refine awp_skip ?_
    change Awp _ _ _ _ _ _ _
    -- region 3  decimals.go:104
    refine awp_rseq [0, 2, 4, 5] (by rfl) fun K hK => ?_
    simp (decide := true) only [ev, putD, Slots.put, Slots.get, if_true, if_false, true_and, ↓ap_move, pop_move]
    repeat (with_reducible refine And.intro ?_ ?_; · first | trivial | omega | (intro hg; simp only [Bool.and_eq_true, Bool.or_eq_true, Bool.not_eq_true', Bool.and_eq_false_iff, Bool.or_eq_false_iff, Bool.not_eq_false', decide_eq_true_eq, decide_eq_false_iff_not, eqNil] at hg; omega) | (simp only [List.length_append, List.length_map, List.length_range, List.length_replicate, List.length_take, List.length_drop, List.length_cons, List.length_nil, List.length_set, List.length_reverse]; omega))
    refine aOps_callV (V := .tuple [.str (Lib.trimPrefix s [45]), .bool ([45].isPrefixOf s)]) (by rfl) (by rfl) (c_cutPrefix w₀ _ s [45]) ?_
    simp (decide := true) only [aOps_nil, ev, putD, Slots.put, Slots.get, Slots.keep, if_true, if_false, true_and, ↓ap_move, pop_move, ↓ap_extract, pop_extract, pExt_tuple, List.length_cons, List.length_nil, List.getD_cons_zero, List.getD_cons_succ, ↓ap_assign, pop_assign, List.getD_cons_zero, List.getD_cons_succ, Nat.zero_add, Nat.reduceAdd]
    repeat (with_reducible refine And.intro ?_ ?_; · first | trivial | omega | (intro hg; simp only [Bool.and_eq_true, Bool.or_eq_true, Bool.not_eq_true', Bool.and_eq_false_iff, Bool.or_eq_false_iff, Bool.not_eq_false', decide_eq_true_eq, decide_eq_false_iff_not, eqNil] at hg; omega) | (simp only [List.length_append, List.length_map, List.length_range, List.length_replicate, List.length_take, List.length_drop, List.length_cons, List.length_nil, List.length_set, List.length_reverse]; omega))
    apply hK; clear hK K
    refine awp_seq ?_
    -- region 4  decimals.go:105
    refine awp_rseq [0, 2, 4, 5, 19] (by rfl) fun K hK => ?_
    simp (decide := true) only [aOps_nil, ev, putD, Slots.put, Slots.get, Slots.keep, if_true, if_false, true_and, ↓ap_move, pop_move, ↓ap_unOp, pop_unOp, pU_not]
    try simp (disch := omega) only [wrap_i64, wrap_u8]
    repeat (with_reducible refine And.intro ?_ ?_; · first | trivial | omega | (intro hg; simp only [Bool.and_eq_true, Bool.or_eq_true, Bool.not_eq_true', Bool.and_eq_false_iff, Bool.or_eq_false_iff, Bool.not_eq_false', decide_eq_true_eq, decide_eq_false_iff_not, eqNil] at hg; omega) | (simp only [List.length_append, List.length_map, List.length_range, List.length_replicate, List.length_take, List.length_drop, List.length_cons, List.length_nil, List.length_set, List.length_reverse]; omega))
    apply hK; clear hK K
    refine awp_joinT [2, 4, 5] (fun r : List UInt8 => [(2, .ptr (.own k0q0) 0), (4, .str r), (5, .bool ([45].isPrefixOf s))]) (fun r : List UInt8 => h.set k0q0 ⟨[.bool false, .str [], .int .i64 0], 0⟩) (fun r : List UInt8 => r = (if [45].isPrefixOf s = true then Lib.trimPrefix s [45] else Lib.trimPrefix s [43])) ?_ ?_
    · refine awp_cond (b := _) rfl (fun hb2 => ?_) (fun hb2 => ?_)
      · try simp only [Bool.not_eq_true'] at hb2
        -- region 5  decimals.go:106
        refine awp_r [2, 4, 5] (by rfl) ?_
        simp (decide := true) only [ev, putD, Slots.put, Slots.get, if_true, if_false, true_and, ↓ap_move, pop_move, decA]
        repeat (with_reducible refine And.intro ?_ ?_; · first | trivial | omega | (intro hg; simp only [Bool.and_eq_true, Bool.or_eq_true, Bool.not_eq_true', Bool.and_eq_false_iff, Bool.or_eq_false_iff, Bool.not_eq_false', decide_eq_true_eq, decide_eq_false_iff_not, eqNil] at hg; omega) | (simp only [List.length_append, List.length_map, List.length_range, List.length_replicate, List.length_take, List.length_drop, List.length_cons, List.length_nil, List.length_set, List.length_reverse]; omega))
        refine aOps_callV (V := .str (Lib.trimPrefix s [43])) (by rfl) (by rfl) (c_trimPrefix w₀ _ s [43]) ?_
        simp (decide := true) only [aOps_nil, ev, putD, Slots.put, Slots.get, Slots.keep, if_true, if_false, true_and, ↓ap_assign, pop_assign]
        repeat (with_reducible refine And.intro ?_ ?_; · first | trivial | omega | (intro hg; simp only [Bool.and_eq_true, Bool.or_eq_true, Bool.not_eq_true', Bool.and_eq_false_iff, Bool.or_eq_false_iff, Bool.not_eq_false', decide_eq_true_eq, decide_eq_false_iff_not, eqNil] at hg; omega) | (simp only [List.length_append, List.length_map, List.length_range, List.length_replicate, List.length_take, List.length_drop, List.length_cons, List.length_nil, List.length_set, List.length_reverse]; omega))
        try simp only [thenA_normal]
        first
        | exact ⟨_, rfl, Sub.refl _, by rw [if_neg (by rw [hb2]; decide)]⟩
        | exact ⟨_, rfl, Sub.refl _, by rw [if_pos hb2]⟩
      · try simp only [Bool.not_eq_false'] at hb2
        refine awp_skip ?_
        try simp only [thenA_normal]
        first
        | exact ⟨_, rfl, Sub.refl _, by rw [if_neg (by rw [hb2]; decide)]⟩
        | exact ⟨_, rfl, Sub.refl _, by rw [if_pos hb2]⟩
    · rintro r hr
      have hrl : r.length ≤ s.length := by rw [hr]; split <;> exact trimPrefix_len _ _
      have hcl := cutP_len r 46
      -- region 6  decimals.go:108
      refine awp_rseq [2, 5, 6, 7, 8] (by rfl) fun K hK => ?_
      simp (decide := true) only [ev, putD, Slots.put, Slots.get, if_true, if_false, true_and, ↓ap_move, pop_move]
      repeat (with_reducible refine And.intro ?_ ?_; · first | trivial | omega | (intro hg; simp only [Bool.and_eq_true, Bool.or_eq_true, Bool.not_eq_true', Bool.and_eq_false_iff, Bool.or_eq_false_iff, Bool.not_eq_false', decide_eq_true_eq, decide_eq_false_iff_not, eqNil] at hg; omega) | (simp only [List.length_append, List.length_map, List.length_range, List.length_replicate, List.length_take, List.length_drop, List.length_cons, List.length_nil, List.length_set, List.length_reverse]; omega))
      refine aOps_callV (V := .tuple [.str (cutP r 46).1, .str (cutP r 46).2.1, .bool (cutP r 46).2.2]) (by rfl) (by rfl) (c_cut1 w₀ _ r 46 (by omega)) ?_
      simp (decide := true) only [aOps_nil, ev, putD, Slots.put, Slots.get, Slots.keep, if_true, if_false, true_and, ↓ap_move, pop_move, ↓ap_extract, pop_extract, pExt_tuple, List.length_cons, List.length_nil, List.getD_cons_zero, List.getD_cons_succ, ↓ap_assign, pop_assign, List.getD_cons_zero, List.getD_cons_succ, Nat.zero_add, Nat.reduceAdd]
      repeat (with_reducible refine And.intro ?_ ?_; · first | trivial | omega | (intro hg; simp only [Bool.and_eq_true, Bool.or_eq_true, Bool.not_eq_true', Bool.and_eq_false_iff, Bool.or_eq_false_iff, Bool.not_eq_false', decide_eq_true_eq, decide_eq_false_iff_not, eqNil] at hg; omega) | (simp only [List.length_append, List.length_map, List.length_range, List.length_replicate, List.length_take, List.length_drop, List.length_cons, List.length_nil, List.length_set, List.length_reverse]; omega))
      apply hK; clear hK K
      refine awp_seq ?_
      -- region 7  decimals.go:109
      refine awp_rseq [2, 5, 6, 7, 39] (by rfl) fun K hK => ?_
      simp (decide := true) only [ev, absV, absS, putD, Slots.put, Slots.get, if_true, if_false, true_and, ↓ap_move, pop_move, ↓ag_move, agP, agQ_some, nthDst, gKnown_bool, guardB_bool_true, guardB_bool_false, implies_true, ↓ag_binOp, pop_binOp, isNilC_str, cond_false, cv_binl, cv_binr, cp_binl, cp_binr, pBinX_str, pS_eql, ↓ap_pick, pop_pick, pPick_bool, pickV_cond_l, pickV_and, isNilC_tmp, pS_add]
      repeat (with_reducible refine And.intro ?_ ?_; · first | trivial | omega | (intro hg; simp only [Bool.and_eq_true, Bool.or_eq_true, Bool.not_eq_true', Bool.and_eq_false_iff, Bool.or_eq_false_iff, Bool.not_eq_false', decide_eq_true_eq, decide_eq_false_iff_not, eqNil] at hg; omega) | (simp only [List.length_append, List.length_map, List.length_range, List.length_replicate, List.length_take, List.length_drop, List.length_cons, List.length_nil, List.length_set, List.length_reverse]; omega))
      first
      | (refine aOps_yes (by rfl) ?_; refine aOps_callV (V := .bool (numB ((cutP r 46).1 ++ (cutP r 46).2.1))) (by rfl) (by rfl) (c_number w₀ _ _ (by rw [List.length_append]; omega)) ?_)
      | (refine aOps_gcall (V := .bool (numB ((cutP r 46).1 ++ (cutP r 46).2.1))) (f := _) (cap := _) (xs := _) rfl (fun hg => ⟨rfl, ?_⟩) (fun hg => c_number w₀ _ _ (by rw [List.length_append]; omega)) ?_; · (simp (decide := true) only [gv, nthDst, Slots.get, if_true, if_false, guardB_bool_false] at hg; simp (decide := true) only [evs, ev, Slots.get, if_true, if_false, hg, condV_true, List.append_nil, List.map_cons, List.map_nil] <;> try rfl))
      simp (decide := true) only [aOps_nil, ev, absV, absS, putD, Slots.put, Slots.get, Slots.keep, if_true, if_false, true_and, gv, nthDst, guardB_bool_false, ↓ag_unOp, pop_unOp, agP, agQ_some, gKnown_bool, implies_true, pU_not, cv_un, cp_un, ↓ap_pick, pop_pick, pPick_bool, pickV_cond_r, pickV_or]
      try simp (disch := omega) only [wrap_i64, wrap_u8]
      repeat (with_reducible refine And.intro ?_ ?_; · first | trivial | omega | (intro hg; simp only [Bool.and_eq_true, Bool.or_eq_true, Bool.not_eq_true', Bool.and_eq_false_iff, Bool.or_eq_false_iff, Bool.not_eq_false', decide_eq_true_eq, decide_eq_false_iff_not, eqNil] at hg; omega) | (simp only [List.length_append, List.length_map, List.length_range, List.length_replicate, List.length_take, List.length_drop, List.length_cons, List.length_nil, List.length_set, List.length_reverse]; omega))
      apply hK; clear hK K
      refine awp_cond (b := _) rfl (fun hb3 => ?_) (fun hb3 => ?_)
      · try simp only [decide_eq_true_eq, Bool.not_eq_true', Bool.and_eq_true, Bool.or_eq_true] at hb3
        -- region 8  decimals.go:110
        refine awp_rseq [2, 3] (by rfl) fun K hK => ?_
        simp (decide := true) only [ev, absV, absS, putD, Slots.put, Slots.get, if_false, true_and, ↓ap_build, ↓pop_buildL, bld27_, evP, List.map_nil]
        repeat (with_reducible refine And.intro ?_ ?_; · first | trivial | omega | (intro hg; simp only [Bool.and_eq_true, Bool.or_eq_true, Bool.not_eq_true', Bool.and_eq_false_iff, Bool.or_eq_false_iff, Bool.not_eq_false', decide_eq_true_eq, decide_eq_false_iff_not, eqNil] at hg; omega) | (simp only [List.length_append, List.length_map, List.length_range, List.length_replicate, List.length_take, List.length_drop, List.length_cons, List.length_nil, List.length_set, List.length_reverse]; omega))
        refine aOps_store (by rfl) (by rfl) (by repeat (first | exact AHeap.set_same _ _ _ | assumption | refine (AHeap.set_ne _ _ (by first | assumption | exact Ne.symm (by assumption))).trans ?_)) sz27 (by rfl) (by rfl) (by first | exact Nat.le_refl _ | decide | (simp; done) | (simp; omega)) (Nat.zero_le _) (by rfl) ?_
        simp only [AHeap.set_set, AVal.cells]
        simp (decide := true) only [aOps_nil, ev, absV, absS, putD, Slots.put, Slots.get, Slots.keep, if_true, if_false, true_and, ↓ap_assign, pop_assign, setAt, List.set_cons_zero, List.set_cons_succ, Nat.zero_add, Nat.reduceAdd]
        repeat (with_reducible refine And.intro ?_ ?_; · first | trivial | omega | (intro hg; simp only [Bool.and_eq_true, Bool.or_eq_true, Bool.not_eq_true', Bool.and_eq_false_iff, Bool.or_eq_false_iff, Bool.not_eq_false', decide_eq_true_eq, decide_eq_false_iff_not, eqNil] at hg; omega) | (simp only [List.length_append, List.length_map, List.length_range, List.length_replicate, List.length_take, List.length_drop, List.length_cons, List.length_nil, List.length_set, List.length_reverse]; omega))
        apply hK; clear hK K
        refine awp_ret ?_
        try simp only [thenA_ret]
        refine retA_ret h (by repeat (first | exact Sub.refl _ | refine Sub.trans_set ?_ (by assumption))) (?_) ?_
        · simp (decide := true) only [resPre, resV_tmp, resV_cell, Slots.get, if_true, if_false, and_true, resV_tmp, resV_cell, pLoad_agg ag27 sz27, rd_set, cellsAt, List.getD_cons_zero, List.getD_cons_succ, Nat.zero_add, Nat.reduceAdd, lv_bool, lv_int, lv_str, allLive, Bool.and_true, cellsAt, List.getD_cons_zero, List.getD_cons_succ, Nat.zero_add, Nat.reduceAdd, lv_bool, lv_int, lv_str, allLive, Bool.and_true]
        
        simp (decide := true) only [Slots.get, if_true, if_false, and_true, resOfG_two, resV_tmp, resV_cell, pLoad_agg ag27 sz27, rd_set, cellsAt, List.getD_cons_zero, List.getD_cons_succ, Nat.zero_add, Nat.reduceAdd, lv_bool, lv_int, lv_str, allLive, Bool.and_true, cellsAt, List.getD_cons_zero, List.getD_cons_succ, Nat.zero_add, Nat.reduceAdd, lv_bool, lv_int, lv_str, allLive, Bool.and_true, decA]
        rw [parseE, if_neg (by omega)]
        simp only [← hr]
        rw [if_pos hb3]
        rfl
      · try simp only [decide_eq_false_iff_not, Bool.not_eq_false', Bool.and_eq_false_iff, Bool.or_eq_false_iff] at hb3
        have hb3' : ¬(((cutP r 46).2.2 = true ∧ (cutP r 46).2.1 = []) ∨ numB ((cutP r 46).1 ++ (cutP r 46).2.1) = false) := by
          rintro (⟨e1, e2⟩ | e)
          · rcases hb3.1 with q | q
            · rw [q] at e1; cases e1
            · exact q e2
          · rw [hb3.2] at e; cases e
        have hnum : numB ((cutP r 46).1 ++ (cutP r 46).2.1) = true := by
          cases hn : numB ((cutP r 46).1 ++ (cutP r 46).2.1) with
          | true => rfl
          | false => exact absurd (.inr hn) hb3'
        refine awp_skip ?_
        change Awp _ _ _ _ _ _ _
        -- region 9  decimals.go:112
        refine awp_rseq [2, 3] (by rfl) fun K hK => ?_
        simp (decide := true) only [ev, putD, Slots.put, Slots.get, if_true, if_false, true_and, ↓ap_move, pop_move, ↓ap_binOp, pop_binOp, isNilC_tmp, cond_false, pBinX_str, pS_add, ↓ap_len, pop_len, pLen_str Tryz.underlying9]
        repeat (with_reducible refine And.intro ?_ ?_; · first | trivial | omega | (intro hg; simp only [Bool.and_eq_true, Bool.or_eq_true, Bool.not_eq_true', Bool.and_eq_false_iff, Bool.or_eq_false_iff, Bool.not_eq_false', decide_eq_true_eq, decide_eq_false_iff_not, eqNil] at hg; omega) | (simp only [List.length_append, List.length_map, List.length_range, List.length_replicate, List.length_take, List.length_drop, List.length_cons, List.length_nil, List.length_set, List.length_reverse]; omega))
        refine aOps_callV (V := .tuple [decA (normE ([45].isPrefixOf s) (natOf ((cutP r 46).1 ++ (cutP r 46).2.1)) (cutP r 46).2.1.length).1, .int .i64 (normE ([45].isPrefixOf s) (natOf ((cutP r 46).1 ++ (cutP r 46).2.1)) (cutP r 46).2.1.length).2]) (by rfl) (by rfl) (c_normal w₀ _ _ _ _ (numB_all hnum) (by rw [List.length_append]; omega) (by omega) (by omega)) ?_
        simp (decide := true) only [ev, putD, Slots.put, Slots.get, if_true, if_false, true_and, ↓ap_extract, pop_extract, pExt_tuple, List.length_cons, List.length_nil, List.getD_cons_zero, List.getD_cons_succ, List.getD_cons_zero, List.getD_cons_succ, Nat.zero_add, Nat.reduceAdd, decA]
        repeat (with_reducible refine And.intro ?_ ?_; · first | trivial | omega | (intro hg; simp only [Bool.and_eq_true, Bool.or_eq_true, Bool.not_eq_true', Bool.and_eq_false_iff, Bool.or_eq_false_iff, Bool.not_eq_false', decide_eq_true_eq, decide_eq_false_iff_not, eqNil] at hg; omega) | (simp only [List.length_append, List.length_map, List.length_range, List.length_replicate, List.length_take, List.length_drop, List.length_cons, List.length_nil, List.length_set, List.length_reverse]; omega))
        refine aOps_store (by rfl) (by rfl) (by repeat (first | exact AHeap.set_same _ _ _ | assumption | refine (AHeap.set_ne _ _ (by first | assumption | exact Ne.symm (by assumption))).trans ?_)) sz27 (by rfl) (by rfl) (by first | exact Nat.le_refl _ | decide | (simp; done) | (simp; omega)) (Nat.zero_le _) (by rfl) ?_
        simp only [AHeap.set_set, AVal.cells]
        simp (decide := true) only [aOps_nil, ev, putD, Slots.put, Slots.get, Slots.keep, if_true, if_false, true_and, ↓ap_assign, pop_assign, setAt, List.set_cons_zero, List.set_cons_succ, Nat.zero_add, Nat.reduceAdd]
        repeat (with_reducible refine And.intro ?_ ?_; · first | trivial | omega | (intro hg; simp only [Bool.and_eq_true, Bool.or_eq_true, Bool.not_eq_true', Bool.and_eq_false_iff, Bool.or_eq_false_iff, Bool.not_eq_false', decide_eq_true_eq, decide_eq_false_iff_not, eqNil] at hg; omega) | (simp only [List.length_append, List.length_map, List.length_range, List.length_replicate, List.length_take, List.length_drop, List.length_cons, List.length_nil, List.length_set, List.length_reverse]; omega))
        apply hK; clear hK K
        refine awp_ret ?_
        try simp only [thenA_ret, inBlockA_ret]
        refine retA_ret h (by repeat (first | exact Sub.refl _ | refine Sub.trans_set ?_ (by assumption))) (?_) ?_
        · simp (decide := true) only [resPre, resV_tmp, resV_cell, Slots.get, if_true, if_false, and_true, resV_tmp, resV_cell, pLoad_agg ag27 sz27, rd_set, cellsAt, List.getD_cons_zero, List.getD_cons_succ, Nat.zero_add, Nat.reduceAdd, lv_bool, lv_int, lv_str, allLive, Bool.and_true, cellsAt, List.getD_cons_zero, List.getD_cons_succ, Nat.zero_add, Nat.reduceAdd, lv_bool, lv_int, lv_str, allLive, Bool.and_true]
        
        simp (decide := true) only [Slots.get, if_true, if_false, and_true, resOfG_two, resV_tmp, resV_cell, pLoad_agg ag27 sz27, rd_set, cellsAt, List.getD_cons_zero, List.getD_cons_succ, Nat.zero_add, Nat.reduceAdd, lv_bool, lv_int, lv_str, allLive, Bool.and_true, cellsAt, List.getD_cons_zero, List.getD_cons_succ, Nat.zero_add, Nat.reduceAdd, lv_bool, lv_int, lv_str, allLive, Bool.and_true, decA]
        rw [parseE, if_neg (by omega)]
        simp only [← hr]
        rw [if_neg hb3']

/-! ### Text -/
def textE (d : D) : List UInt8 :=
  if checkE d ≠ 0 then [] else
  let s := padL d.dig (d.scale + 1)
  let t := if 0 < d.scale then s.take ((s.length : Int) - d.scale).toNat ++ [46] ++ s.drop ((s.length : Int) - d.scale).toNat else s
  if d.neg = true then [45] ++ t else t
theorem c_Text (w₀ : World) (h : AHeap) (d : D) (hl : d.dig.length ≤ 9223372036854775807) :
    ACall Tryz.prog w₀ 16 [decA d] h (fun v h' => v = .str (textE d) ∧ h' = h) := by
  refine acall_intro (n := 35) (rs := [.tmp 2]) Tryz.func16 rfl rfl rfl rfl (Nat.le_of_ble_eq_true rfl) ?_
  simp only [initSlots]
  -- region 0  decimals.go:121
  refine awp_rseq [1] (by rfl) fun K hK => ?_
  refine aOps_box (by rfl) (by rfl) (by rfl) fun k0q0 hk0q0 => ?_
  try have hf_0q0 : h k0q0 = none := by first | assumption | (simp only [AHeap.set_none] at hk0q0; simp only [hk0q0])
  skip
  simp (decide := true) only [aOps_nil, ev, absV, absS, putD, Slots.put, Slots.get, Slots.keep, if_true, if_false, true_and, ↓ap_assign, pop_assign, AVal.cells, decA]
  repeat (with_reducible refine And.intro ?_ ?_; · first | trivial | omega | (intro hg; simp only [Bool.and_eq_true, Bool.or_eq_true, Bool.not_eq_true', Bool.and_eq_false_iff, Bool.or_eq_false_iff, Bool.not_eq_false', decide_eq_true_eq, decide_eq_false_iff_not, eqNil] at hg; omega) | (simp only [List.length_append, List.length_map, List.length_range, List.length_replicate, List.length_take, List.length_drop, List.length_cons, List.length_nil, List.length_set, List.length_reverse]; omega))
  apply hK; clear hK K
  refine awp_seq ?_
  -- region 1  decimals.go:122
  refine awp_rseq [1, 7] (by rfl) fun K hK => ?_
  simp (decide := true) only [ev, putD, Slots.put, Slots.get, if_true, if_false, true_and, ↓ap_loadL, apL_mk, pLoad_agg ag27 sz27, rd_any, cellsAt, List.getD_cons_zero, List.getD_cons_succ, Nat.zero_add, Nat.reduceAdd, lv_bool, lv_int, lv_str, allLive, Bool.and_true]
  repeat (with_reducible refine And.intro ?_ ?_; · first | trivial | omega | (intro hg; simp only [Bool.and_eq_true, Bool.or_eq_true, Bool.not_eq_true', Bool.and_eq_false_iff, Bool.or_eq_false_iff, Bool.not_eq_false', decide_eq_true_eq, decide_eq_false_iff_not, eqNil] at hg; omega) | (simp only [List.length_append, List.length_map, List.length_range, List.length_replicate, List.length_take, List.length_drop, List.length_cons, List.length_nil, List.length_set, List.length_reverse]; omega))
  refine aOps_callV (V := .int .i64 (checkE d)) (by rfl) (by rfl) (c_Check w₀ _ d hl) ?_
  simp (decide := true) only [aOps_nil, ev, absV, absS, putD, Slots.put, Slots.get, Slots.keep, if_true, if_false, true_and, ↓ap_binOp, pop_binOp, isNilC_int, cond_false, pBinX_int, pI_neq]
  repeat (with_reducible refine And.intro ?_ ?_; · first | trivial | omega | (intro hg; simp only [Bool.and_eq_true, Bool.or_eq_true, Bool.not_eq_true', Bool.and_eq_false_iff, Bool.or_eq_false_iff, Bool.not_eq_false', decide_eq_true_eq, decide_eq_false_iff_not, eqNil] at hg; omega) | (simp only [List.length_append, List.length_map, List.length_range, List.length_replicate, List.length_take, List.length_drop, List.length_cons, List.length_nil, List.length_set, List.length_reverse]; omega))
  apply hK; clear hK K
  refine awp_cond (b := _) rfl (fun hb1 => ?_) (fun hb1 => ?_)
  · try simp only [decide_eq_false_iff_not, Bool.not_eq_true'] at hb1
    -- region 2  decimals.go:123
    refine awp_rseq [2] (by rfl) fun K hK => ?_
    simp (decide := true) only [aOps_nil, ev, absV, absS, putD, Slots.put, Slots.keep, if_true, if_false, true_and, ↓ap_assign, pop_assign]
    repeat (with_reducible refine And.intro ?_ ?_; · first | trivial | omega | (intro hg; simp only [Bool.and_eq_true, Bool.or_eq_true, Bool.not_eq_true', Bool.and_eq_false_iff, Bool.or_eq_false_iff, Bool.not_eq_false', decide_eq_true_eq, decide_eq_false_iff_not, eqNil] at hg; omega) | (simp only [List.length_append, List.length_map, List.length_range, List.length_replicate, List.length_take, List.length_drop, List.length_cons, List.length_nil, List.length_set, List.length_reverse]; omega))
    apply hK; clear hK K
    refine awp_ret ?_
    try simp only [thenA_ret]
    refine retA_ret h (by repeat (first | exact Sub.refl _ | refine Sub.trans_set ?_ (by assumption))) (resPre_tmp (resPre_nil)) ?_
    simp (decide := true) only [Slots.get, if_true, and_true, resOf_one]
    rw [textE, if_pos hb1]
  · try simp only [decide_eq_true_eq, Bool.not_eq_false'] at hb1
    have hv : checkE d = 0 := by simpa using hb1
    obtain ⟨sd, dd, nd, _⟩ := Small_of_check hv
    have ha1 := sd.l
    have ha2 := sd.s0
    have ha3 := sd.s1
    obtain ⟨s, hs⟩ : ∃ s, s = padL d.dig (d.scale + 1) := ⟨_, rfl⟩
    have hsl : (s.length : Int) ≤ 200 ∧ d.scale < s.length := by rw [hs, padL]; simp; omega
    refine awp_skip ?_
    change Awp _ _ _ _ _ _ _
    -- region 3  decimals.go:125
    refine awp_rseq [1, 3] (by rfl) fun K hK => ?_
    simp (decide := true) only [ev, absV, absS, putD, Slots.put, Slots.get, if_true, if_false, true_and, ↓ap_fieldAddr, pop_fieldAddr, fa27_1, ↓ap_loadL, apL_mk, pLoad_one ag9, fa27_2, pLoad_one ag3, ↓ap_binOp, pop_binOp, isNilC_int, cond_false, pBinX_int, pI_add, rd_any, List.getD_cons_zero, List.getD_cons_succ, Nat.zero_add, lv_int, lv_str]
    try simp (disch := omega) only [wrap_i64]
    repeat (with_reducible refine And.intro ?_ ?_; · first | trivial | omega | (intro hg; simp only [Bool.and_eq_true, Bool.or_eq_true, Bool.not_eq_true', Bool.and_eq_false_iff, Bool.or_eq_false_iff, Bool.not_eq_false', decide_eq_true_eq, decide_eq_false_iff_not, eqNil] at hg; omega) | (simp only [List.length_append, List.length_map, List.length_range, List.length_replicate, List.length_take, List.length_drop, List.length_cons, List.length_nil, List.length_set, List.length_reverse]; omega))
    refine aOps_callV (V := .str s) (by rfl) (by rfl) ((c_padded w₀ _ d.dig (d.scale + 1) (by omega) (by omega) (by omega)).val (by rw [hs])) ?_
    simp (decide := true) only [aOps_nil, ev, putD, Slots.put, Slots.get, Slots.keep, if_true, if_false, true_and, ↓ap_assign, pop_assign]
    repeat (with_reducible refine And.intro ?_ ?_; · first | trivial | omega | (intro hg; simp only [Bool.and_eq_true, Bool.or_eq_true, Bool.not_eq_true', Bool.and_eq_false_iff, Bool.or_eq_false_iff, Bool.not_eq_false', decide_eq_true_eq, decide_eq_false_iff_not, eqNil] at hg; omega) | (simp only [List.length_append, List.length_map, List.length_range, List.length_replicate, List.length_take, List.length_drop, List.length_cons, List.length_nil, List.length_set, List.length_reverse]; omega))
    apply hK; clear hK K
    refine awp_seq ?_
    -- region 4  decimals.go:126
    refine awp_rseq [1, 3, 4] (by rfl) fun K hK => ?_
    simp (decide := true) only [aOps_nil, ev, putD, Slots.put, Slots.get, Slots.keep, if_true, if_false, true_and, ↓ap_move, pop_move, ↓ap_len, pop_len, pLen_str Tryz.underlying9, ↓ap_fieldAddr, pop_fieldAddr, fa27_2, ↓ap_loadL, apL_mk, pLoad_one ag3, ↓ap_binOp, pop_binOp, isNilC_tmp, cond_false, pBinX_int, pI_sub, ↓ap_assign, pop_assign, rd_any, List.getD_cons_zero, List.getD_cons_succ, Nat.zero_add, lv_int]
    try simp (disch := omega) only [wrap_i64]
    repeat (with_reducible refine And.intro ?_ ?_; · first | trivial | omega | (intro hg; simp only [Bool.and_eq_true, Bool.or_eq_true, Bool.not_eq_true', Bool.and_eq_false_iff, Bool.or_eq_false_iff, Bool.not_eq_false', decide_eq_true_eq, decide_eq_false_iff_not, eqNil] at hg; omega) | (simp only [List.length_append, List.length_map, List.length_range, List.length_replicate, List.length_take, List.length_drop, List.length_cons, List.length_nil, List.length_set, List.length_reverse]; omega))
    apply hK; clear hK K
    -- region 5  decimals.go:126
    refine awp_rseq [1, 3, 4, 21] (by rfl) fun K hK => ?_
    simp (decide := true) only [aOps_nil, ev, absV, absS, putD, Slots.put, Slots.get, Slots.keep, if_true, if_false, true_and, ↓ap_fieldAddr, pop_fieldAddr, fa27_2, ↓ap_loadL, apL_mk, pLoad_one ag3, ↓ap_binOp, pop_binOp, isNilC_int, cond_false, pBinX_int, pI_gtr, rd_any, List.getD_cons_zero, List.getD_cons_succ, Nat.zero_add, lv_int]
    repeat (with_reducible refine And.intro ?_ ?_; · first | trivial | omega | (intro hg; simp only [Bool.and_eq_true, Bool.or_eq_true, Bool.not_eq_true', Bool.and_eq_false_iff, Bool.or_eq_false_iff, Bool.not_eq_false', decide_eq_true_eq, decide_eq_false_iff_not, eqNil] at hg; omega) | (simp only [List.length_append, List.length_map, List.length_range, List.length_replicate, List.length_take, List.length_drop, List.length_cons, List.length_nil, List.length_set, List.length_reverse]; omega))
    apply hK; clear hK K
    refine awp_joinT [1, 3] (fun t : List UInt8 => [(1, .ptr (.own k0q0) 0), (3, .str t)]) (fun t : List UInt8 => h.set k0q0 ⟨[.bool d.neg, .str d.dig, .int .i64 d.scale], 0⟩) (fun t : List UInt8 => t = (if 0 < d.scale then s.take ((s.length : Int) - d.scale).toNat ++ [46] ++ s.drop ((s.length : Int) - d.scale).toNat else s)) ?_ ?_
    · refine awp_cond (b := _) rfl (fun hb2 => ?_) (fun hb2 => ?_)
      · try simp only [decide_eq_true_eq] at hb2
        -- region 6  decimals.go:127
        refine awp_draw_all mixed (by kernel_rfl) (by rfl) (by rfl) ?_
        simp (decide := true) only [aOps_nil, ev, absV, absS, putD, Slots.put, Slots.get, if_true, if_false, true_and, ↓ap_move, pop_move, ↓ap_slice, pop_slice, evO, pSliceS_0i Tryz.underlying9, pSliceS_i0 Tryz.underlying9, pSliceS, bndA_none, bndA_int, ↓ap_binOp, pop_binOp, isNilC_str, cond_false, pBinX_str, pS_add, isNilC_tmp, ↓ap_assign, pop_assign]
        repeat (with_reducible refine And.intro ?_ ?_; · first | trivial | omega | (intro hg; simp only [Bool.and_eq_true, Bool.or_eq_true, Bool.not_eq_true', Bool.and_eq_false_iff, Bool.or_eq_false_iff, Bool.not_eq_false', decide_eq_true_eq, decide_eq_false_iff_not, eqNil] at hg; omega) | (simp only [List.length_append, List.length_take, List.length_drop, List.length_cons, List.length_nil]; omega))
        try simp only [thenA_normal]
        first
        | (refine ⟨_, rfl, Sub.refl _, ?_⟩
           rw [if_pos hb2]
           simp only [Int.toNat_natCast, Nat.sub_zero, List.drop_zero]
           rw [List.take_of_length_le (l := List.drop _ s) (by rw [List.length_drop]; omega)])
        | (refine ⟨_, rfl, Sub.refl _, ?_⟩
           rw [if_neg hb2])
      · try simp only [decide_eq_false_iff_not] at hb2
        refine awp_skip ?_
        try simp only [thenA_normal]
        first
        | (refine ⟨_, rfl, Sub.refl _, ?_⟩
           rw [if_pos hb2]
           simp only [Int.toNat_natCast, Nat.sub_zero, List.drop_zero]
           rw [List.take_of_length_le (l := List.drop _ s) (by rw [List.length_drop]; omega)])
        | (refine ⟨_, rfl, Sub.refl _, ?_⟩
           rw [if_neg hb2])
    · rintro t ht
      have htl : t.length ≤ 500 := by
        rw [ht]
        split
        · simp only [List.length_append, List.length_take, List.length_drop, List.length_cons, List.length_nil]; omega
        · omega
      refine awp_seq ?_
      -- region 7  decimals.go:129
      refine awp_rseq [3, 31] (by rfl) fun K hK => ?_
      simp (decide := true) only [aOps_nil, ev, putD, Slots.put, Slots.get, Slots.keep, if_true, if_false, true_and, ↓ap_fieldAddr, pop_fieldAddr, fa27_0, ↓ap_loadL, apL_mk, pLoad_one ag4, rd_any, List.getD_cons_zero, Nat.zero_add, lv_bool]
      repeat (with_reducible refine And.intro ?_ ?_; · first | trivial | omega | (intro hg; simp only [Bool.and_eq_true, Bool.or_eq_true, Bool.not_eq_true', Bool.and_eq_false_iff, Bool.or_eq_false_iff, Bool.not_eq_false', decide_eq_true_eq, decide_eq_false_iff_not, eqNil] at hg; omega) | (simp only [List.length_append, List.length_map, List.length_range, List.length_replicate, List.length_take, List.length_drop, List.length_cons, List.length_nil, List.length_set, List.length_reverse]; omega))
      apply hK; clear hK K
      refine awp_cond (b := _) rfl (fun hb3 => ?_) (fun hb3 => ?_)
      · try simp only [decide_eq_true_eq, decide_eq_false_iff_not, Bool.not_eq_true', Bool.not_eq_false', Bool.and_eq_true, Bool.and_eq_false_iff, Bool.or_eq_true, Bool.or_eq_false_iff, Bool.true_eq, Bool.false_eq, reduceCtorEq] at hb3
        -- region 8  decimals.go:130
        refine awp_r [3] (by rfl) ?_
        simp (decide := true) only [aOps_nil, ev, absV, absS, putD, Slots.put, Slots.get, Slots.keep, if_true, if_false, true_and, ↓ap_move, pop_move, ↓ap_binOp, pop_binOp, isNilC_tmp, cond_false, pBinX_str, pS_add, ↓ap_assign, pop_assign]
        repeat (with_reducible refine And.intro ?_ ?_; · first | trivial | omega | (intro hg; simp only [Bool.and_eq_true, Bool.or_eq_true, Bool.not_eq_true', Bool.and_eq_false_iff, Bool.or_eq_false_iff, Bool.not_eq_false', decide_eq_true_eq, decide_eq_false_iff_not, eqNil] at hg; omega) | (simp only [List.length_cons, List.length_nil]; omega))
        change Awp _ _ _ _ _ _ _
        -- region 9  decimals.go:132
        refine awp_rseq [2] (by rfl) fun K hK => ?_
        simp (decide := true) only [aOps_nil, ev, putD, Slots.put, Slots.get, Slots.keep, if_true, if_false, true_and, ↓ap_move, pop_move, ↓ap_assign, pop_assign]
        repeat (with_reducible refine And.intro ?_ ?_; · first | trivial | omega | (intro hg; simp only [Bool.and_eq_true, Bool.or_eq_true, Bool.not_eq_true', Bool.and_eq_false_iff, Bool.or_eq_false_iff, Bool.not_eq_false', decide_eq_true_eq, decide_eq_false_iff_not, eqNil] at hg; omega) | (simp only [List.length_append, List.length_map, List.length_range, List.length_replicate, List.length_take, List.length_drop, List.length_cons, List.length_nil, List.length_set, List.length_reverse]; omega))
        apply hK; clear hK K
        refine awp_ret ?_
        try simp only [thenA_ret, inBlockA_ret]
        refine retA_ret h (by repeat (first | exact Sub.refl _ | refine Sub.trans_set ?_ (by assumption))) (resPre_tmp (resPre_nil)) ?_
        simp (decide := true) only [Slots.get, if_true, and_true, resOf_one]
        rw [textE, if_neg (fun e => e hv)]
        simp only [← hs, ← ht]
        rw [if_pos hb3]
      · try simp only [decide_eq_true_eq, decide_eq_false_iff_not, Bool.not_eq_true', Bool.not_eq_false', Bool.and_eq_true, Bool.and_eq_false_iff, Bool.or_eq_true, Bool.or_eq_false_iff, Bool.true_eq, Bool.false_eq, reduceCtorEq] at hb3
        refine awp_skip ?_
        change Awp _ _ _ _ _ _ _
        -- region 9  decimals.go:132
        refine awp_rseq [2] (by rfl) fun K hK => ?_
        simp (decide := true) only [aOps_nil, ev, putD, Slots.put, Slots.get, Slots.keep, if_true, if_false, true_and, ↓ap_move, pop_move, ↓ap_assign, pop_assign]
        repeat (with_reducible refine And.intro ?_ ?_; · first | trivial | omega | (intro hg; simp only [Bool.and_eq_true, Bool.or_eq_true, Bool.not_eq_true', Bool.and_eq_false_iff, Bool.or_eq_false_iff, Bool.not_eq_false', decide_eq_true_eq, decide_eq_false_iff_not, eqNil] at hg; omega) | (simp only [List.length_append, List.length_map, List.length_range, List.length_replicate, List.length_take, List.length_drop, List.length_cons, List.length_nil, List.length_set, List.length_reverse]; omega))
        apply hK; clear hK K
        refine awp_ret ?_
        try simp only [thenA_ret, inBlockA_ret]
        refine retA_ret h (by repeat (first | exact Sub.refl _ | refine Sub.trans_set ?_ (by assumption))) (resPre_tmp (resPre_nil)) ?_
        simp (decide := true) only [Slots.get, if_true, and_true, resOf_one]
        rw [textE, if_neg (fun e => e hv)]
        simp only [← hs, ← ht]
        rw [if_neg (by rw [hb3]; decide)]

/-! ### ToInt -/
/-- The integer that digits with a sign spell, if an int64 holds it. -/
def intV (neg : Bool) (n : Nat) : Int := if neg = true then -(n : Int) else n
def intOk (neg : Bool) (n : Nat) : Bool := decide (-9223372036854775808 ≤ intV neg n) && decide (intV neg n ≤ 9223372036854775807)
theorem parseUint_dig : ∀ (l : List UInt8) (acc : Nat), l.all dg = true → acc ≤ 18446744073709551615 →
    Lib.parseUintM 18446744073709551615 acc l = if acc * 10 ^ l.length + natOf l ≤ 18446744073709551615 then .ok (acc * 10 ^ l.length + natOf l) else .range
  | [], acc, _, ha => by
    simp only [Lib.parseUintM, List.length_nil, Nat.pow_zero, Nat.mul_one, natOf_nil, Nat.add_zero]
    rw [if_pos ha]
  | c :: r, acc, hl, ha => by
    rw [List.all_cons, Bool.and_eq_true] at hl
    have hc := (dg_iff c).1 hl.1
    have hp : 0 < 10 ^ r.length := Nat.pow_pos (by omega)
    have hv : natOf (c :: r) = (c.toNat - 48) * 10 ^ r.length + natOf r := natOf_cons c r
    have ht : acc * 10 ^ (c :: r).length + natOf (c :: r) = (acc * 10 + (c.toNat - 48)) * 10 ^ r.length + natOf r := by
      rw [hv, List.length_cons, Nat.pow_succ, Nat.add_mul, Nat.mul_comm (10 ^ r.length) 10, Nat.mul_assoc]
      omega
    rw [Lib.parseUintM, if_pos hc, ht]
    have hbig : ∀ m, 18446744073709551615 < m → ¬ m * 10 ^ r.length + natOf r ≤ 18446744073709551615 := fun m hm hle => by
      have := Nat.le_mul_of_pos_right m hp
      omega
    split
    · rw [if_neg (hbig _ (by omega))]
    · split
      · rw [if_neg (hbig _ (by omega))]
      · exact parseUint_dig r _ hl.2 (by omega)
theorem parseInt_dig (neg : Bool) {l : List UInt8} (hl : l.all dg = true) (hne : l ≠ []) :
    Lib.parseIntB 64 (if neg = true then 45 :: l else l) = if intOk neg (natOf l) = true then .ok (intV neg (natOf l)) else .range := by
  have hu : Lib.parseUintB 64 l = if natOf l ≤ 18446744073709551615 then .ok (natOf l) else .range := by
    unfold Lib.parseUintB
    rw [if_neg hne]
    have := parseUint_dig l 0 hl (by omega)
    simpa using this
  cases neg with
  | true =>
    simp only [if_true]
    unfold Lib.parseIntB
    simp only [show (45 : UInt8).toNat = 45 from rfl, or_true, if_true, hu]
    unfold intOk intV
    by_cases h1 : natOf l ≤ 18446744073709551615
    · rw [if_pos h1]
      simp only [not_true_eq_false, false_and, if_false, true_and, if_true]
      by_cases h2 : 9223372036854775808 < natOf l
      · rw [if_pos (show 2 ^ (64 - 1) < natOf l from h2), if_neg (by simp; omega)]
      · rw [if_neg (show ¬2 ^ (64 - 1) < natOf l from h2), if_pos (by simp; omega)]
    · rw [if_neg h1, if_neg (by simp; omega)]
  | false =>
    simp only [Bool.false_eq_true, if_false]
    cases l with
    | nil => exact absurd rfl hne
    | cons c r =>
      have hc := (dg_iff c).1 (by rw [List.all_cons, Bool.and_eq_true] at hl; exact hl.1)
      unfold Lib.parseIntB
      have h43 : ¬c.toNat = 43 := by omega
      have h45 : ¬c.toNat = 45 := by omega
      simp only [h43, h45, or_self, if_false, hu]
      unfold intOk intV
      by_cases h1 : natOf (c :: r) ≤ 18446744073709551615
      · rw [if_pos h1]
        simp only [not_false_eq_true, true_and, false_and, if_false, Bool.false_eq_true]
        by_cases h2 : 9223372036854775808 ≤ natOf (c :: r)
        · rw [if_pos (show 2 ^ (64 - 1) ≤ natOf (c :: r) from h2), if_neg (by simp; omega)]
        · rw [if_neg (show ¬2 ^ (64 - 1) ≤ natOf (c :: r) from h2), if_pos (by simp; omega)]
      · rw [if_neg h1, if_neg (by simp; omega)]
/-- What strconv's errors hold. -/
structure Errs (w : World) : Prop where
  rng : ∃ ev, w.cell? ⟨3, 0, none⟩ = some ev ∧ (ev = .nilIface ∨ ∃ te pe, ev = .iface te pe)
def errT : TypeId := 130
def errA (ok : Bool) : AVal := if ok = true then .nilIface else .iface errT .dead
theorem pIfNil_errA (ok : Bool) : pIfNil Tryz.prog .neq 82 (errA ok) = ⟨True, .bool (!ok)⟩ := by
  cases ok with
  | true => exact pIfNil_ne Tryz.underlying82
  | false => exact pIfNil_nei Tryz.underlying82 _ _
theorem c_ParseInt (w₀ : World) (he : Errs w₀) (h : AHeap) (neg : Bool) (l : List UInt8) (hl : l.all dg = true) (hne : l ≠ []) (hlen : l.length ≤ 1000000) :
    ACall Tryz.prog w₀ 59 [.str (if neg = true then 45 :: l else l), .int .i64 10, .int .i64 64] h (fun v h' => (∃ n, v = .tuple [.int .i64 n, errA (intOk neg (natOf l))] ∧ (intOk neg (natOf l) = true → n = intV neg (natOf l))) ∧ h' = h) := by
  intro φ vals w hr hvs
  have hvals : vals = [.string ⟨⟨if neg = true then 45 :: l else l⟩⟩, .int .i64 10, .int .i64 64] := by
    simp only [VRs, VR] at hvs
    obtain ⟨_, _, rfl, rfl, _, _, rfl, rfl, _, _, rfl, rfl, rfl⟩ := hvs
    rfl
  subst hvals
  have hp := parseInt_dig neg hl hne
  have hsz : (⟨⟨if neg = true then 45 :: l else l⟩⟩ : ByteArray).size ≤ 2000000 := by
    show (if neg = true then 45 :: l else l).length ≤ _
    split
    · rw [List.length_cons]; omega
    · omega
  refine .inl ⟨_, Tryz.func59, rfl, rfl, ?_⟩
  cases ho : intOk neg (natOf l) with
  | true =>
    have hp := hp.trans (show _ = Lib.NumEnd.ok (intV neg (natOf l)) by rw [ho]; rfl)
    refine (Tryz.strconv_ParseInt_10_at64_ok ⟨⟨if neg = true then 45 :: l else l⟩⟩ (by omega) (intV neg (natOf l)) hp w).mono fun e w' ⟨e1, e2⟩ => ⟨_, e1, φ, .tuple [.int .i64 (intV neg (natOf l)), .nilIface], h, φ.le_refl, ?_, ?_, ⟨_, rfl, fun _ => rfl⟩, rfl⟩
    · rcases e2 with e2 | ⟨t, e2⟩
      · rw [e2]; exact hr
      · rw [e2]; exact hr.later (Go.Lib.bytesWorld_below w _ t)
    · simp only [VR]
      refine ⟨_, rfl, ?_⟩
      simp only [VRs]
      exact ⟨_, _, rfl, by simp only [VR], _, _, rfl, by simp only [VR], rfl⟩
  | false =>
    have hp := hp.trans (show _ = Lib.NumEnd.range by rw [ho]; rfl)
    obtain ⟨ev, h1, h2⟩ := he.rng
    have hlt : 3 < w₀.heap.size := cell_lt h1
    have h1' : w.cell? ⟨3, 0, none⟩ = some ev := by rw [hr.below.cell (p := ⟨3, 0, none⟩) hlt]; exact h1
    refine (Tryz.strconv_ParseInt_10_at64_range ⟨⟨if neg = true then 45 :: l else l⟩⟩ (by omega) hp ev w h1' h2).mono fun e w' ⟨N, e1, e2, e3, e4⟩ => ⟨_, e1, φ, .tuple [.int .i64 (Lib.intSat 64 (if neg = true then 45 :: l else l)), .iface errT .dead], h, φ.le_refl, hr.later e4, ?_, ⟨_, rfl, fun e => (by cases e)⟩, rfl⟩
    simp only [VR]
    refine ⟨_, rfl, ?_⟩
    simp only [VRs]
    exact ⟨_, _, rfl, by simp only [VR], _, _, rfl, by simp only [VR]; exact ⟨_, rfl, trivial⟩, rfl⟩
def toIntE (d : D) : Int × Int :=
  if checkE d ≠ 0 then (0, 1) else if 0 < d.scale then (0, 12)
  else if intOk d.neg (natOf d.dig) = true then (intV d.neg (natOf d.dig), 0) else (0, 13)
theorem c_ToInt (w₀ : World) (he : Errs w₀) (h : AHeap) (d : D) (hl : d.dig.length ≤ 9223372036854775807) :
    ACall Tryz.prog w₀ 37 [decA d] h (fun v h' => v = .tuple [.int .i64 (toIntE d).1, .int .i64 (toIntE d).2] ∧ h' = h) := by
  refine acall_intro (n := 29) (rs := [.tmp 2, .tmp 3]) Tryz.func37 rfl rfl rfl rfl (Nat.le_of_ble_eq_true rfl) ?_
  simp only [initSlots]
  -- region 0  decimals.go:81
  refine awp_rseq [1] (by rfl) fun K hK => ?_
  refine aOps_box (by rfl) (by rfl) (by rfl) fun k0q0 hk0q0 => ?_
  try have hf_0q0 : h k0q0 = none := by first | assumption | (simp only [AHeap.set_none] at hk0q0; simp only [hk0q0])
  skip
  simp (decide := true) only [aOps_nil, ev, absV, absS, putD, Slots.put, Slots.get, Slots.keep, if_true, if_false, true_and, ↓ap_assign, pop_assign, AVal.cells, decA]
  repeat (with_reducible refine And.intro ?_ ?_; · first | trivial | omega | (intro hg; simp only [Bool.and_eq_true, Bool.or_eq_true, Bool.not_eq_true', Bool.and_eq_false_iff, Bool.or_eq_false_iff, Bool.not_eq_false', decide_eq_true_eq, decide_eq_false_iff_not, eqNil] at hg; omega) | (simp only [List.length_append, List.length_map, List.length_range, List.length_replicate, List.length_take, List.length_drop, List.length_cons, List.length_nil, List.length_set, List.length_reverse]; omega))
  apply hK; clear hK K
  refine awp_seq ?_
  refine awp_block ?_
  -- region 1  decimals.go:83
  refine awp_rseq [1, 7] (by rfl) fun K hK => ?_
  simp (decide := true) only [ev, putD, Slots.put, Slots.get, if_true, if_false, true_and, ↓ap_loadL, apL_mk, pLoad_agg ag27 sz27, rd_any, cellsAt, List.getD_cons_zero, List.getD_cons_succ, Nat.zero_add, Nat.reduceAdd, lv_bool, lv_int, lv_str, allLive, Bool.and_true]
  repeat (with_reducible refine And.intro ?_ ?_; · first | trivial | omega | (intro hg; simp only [Bool.and_eq_true, Bool.or_eq_true, Bool.not_eq_true', Bool.and_eq_false_iff, Bool.or_eq_false_iff, Bool.not_eq_false', decide_eq_true_eq, decide_eq_false_iff_not, eqNil] at hg; omega) | (simp only [List.length_append, List.length_map, List.length_range, List.length_replicate, List.length_take, List.length_drop, List.length_cons, List.length_nil, List.length_set, List.length_reverse]; omega))
  refine aOps_callV (V := .int .i64 (checkE d)) (by rfl) (by rfl) (c_Check w₀ _ d hl) ?_
  simp (decide := true) only [aOps_nil, ev, absV, absS, putD, Slots.put, Slots.get, Slots.keep, if_true, if_false, true_and, ↓ap_binOp, pop_binOp, isNilC_int, cond_false, pBinX_int, pI_neq, ↓ap_assign, pop_assign]
  repeat (with_reducible refine And.intro ?_ ?_; · first | trivial | omega | (intro hg; simp only [Bool.and_eq_true, Bool.or_eq_true, Bool.not_eq_true', Bool.and_eq_false_iff, Bool.or_eq_false_iff, Bool.not_eq_false', decide_eq_true_eq, decide_eq_false_iff_not, eqNil] at hg; omega) | (simp only [List.length_append, List.length_map, List.length_range, List.length_replicate, List.length_take, List.length_drop, List.length_cons, List.length_nil, List.length_set, List.length_reverse]; omega))
  apply hK; clear hK K
  refine awp_cond (b := _) rfl (fun hb1 => ?_) (fun hb1 => ?_)
  · try simp only [decide_eq_false_iff_not, Bool.not_eq_true'] at hb1
    -- region 2  decimals.go:84
    refine awp_rseq [2, 3] (by rfl) fun K hK => ?_
    simp (decide := true) only [aOps_nil, ev, absV, absS, putD, Slots.put, Slots.keep, if_true, if_false, true_and, ↓ap_assign, pop_assign]
    repeat (with_reducible refine And.intro ?_ ?_; · first | trivial | omega | (intro hg; simp only [Bool.and_eq_true, Bool.or_eq_true, Bool.not_eq_true', Bool.and_eq_false_iff, Bool.or_eq_false_iff, Bool.not_eq_false', decide_eq_true_eq, decide_eq_false_iff_not, eqNil] at hg; omega) | (simp only [List.length_append, List.length_map, List.length_range, List.length_replicate, List.length_take, List.length_drop, List.length_cons, List.length_nil, List.length_set, List.length_reverse]; omega))
    apply hK; clear hK K
    refine awp_ret ?_
    try simp only [thenA_ret, inBlockA_ret]
    refine retA_ret h (by repeat (first | exact Sub.refl _ | refine Sub.trans_set ?_ (by assumption))) (resPre_tmp (resPre_tmp (resPre_nil))) ?_
    simp (decide := true) only [Slots.get, if_true, if_false, and_true, resOf_two]
    rw [toIntE, if_pos hb1]
  · try simp only [decide_eq_true_eq, Bool.not_eq_false'] at hb1
    have hv : checkE d = 0 := by simpa using hb1
    obtain ⟨sd, dd, nd, _⟩ := Small_of_check hv
    have ha1 := sd.l
    -- region 3  decimals.go:85
    refine awp_rseq [1, 11] (by rfl) fun K hK => ?_
    simp (decide := true) only [aOps_nil, ev, absV, absS, putD, Slots.put, Slots.get, Slots.keep, if_true, if_false, true_and, ↓ap_fieldAddr, pop_fieldAddr, fa27_2, ↓ap_loadL, apL_mk, pLoad_one ag3, ↓ap_binOp, pop_binOp, isNilC_int, cond_false, pBinX_int, pI_gtr, ↓ap_assign, pop_assign, rd_any, List.getD_cons_zero, List.getD_cons_succ, Nat.zero_add, lv_int]
    repeat (with_reducible refine And.intro ?_ ?_; · first | trivial | omega | (intro hg; simp only [Bool.and_eq_true, Bool.or_eq_true, Bool.not_eq_true', Bool.and_eq_false_iff, Bool.or_eq_false_iff, Bool.not_eq_false', decide_eq_true_eq, decide_eq_false_iff_not, eqNil] at hg; omega) | (simp only [List.length_append, List.length_map, List.length_range, List.length_replicate, List.length_take, List.length_drop, List.length_cons, List.length_nil, List.length_set, List.length_reverse]; omega))
    apply hK; clear hK K
    refine awp_cond (b := _) rfl (fun hb2 => ?_) (fun hb2 => ?_)
    · try simp only [decide_eq_true_eq] at hb2
      -- region 4  decimals.go:86
      refine awp_rseq [2, 3] (by rfl) fun K hK => ?_
      simp (decide := true) only [aOps_nil, ev, absV, absS, putD, Slots.put, Slots.keep, if_true, if_false, true_and, ↓ap_assign, pop_assign]
      repeat (with_reducible refine And.intro ?_ ?_; · first | trivial | omega | (intro hg; simp only [Bool.and_eq_true, Bool.or_eq_true, Bool.not_eq_true', Bool.and_eq_false_iff, Bool.or_eq_false_iff, Bool.not_eq_false', decide_eq_true_eq, decide_eq_false_iff_not, eqNil] at hg; omega) | (simp only [List.length_append, List.length_map, List.length_range, List.length_replicate, List.length_take, List.length_drop, List.length_cons, List.length_nil, List.length_set, List.length_reverse]; omega))
      apply hK; clear hK K
      refine awp_ret ?_
      try simp only [thenA_ret, inBlockA_ret]
      refine retA_ret h (by repeat (first | exact Sub.refl _ | refine Sub.trans_set ?_ (by assumption))) (resPre_tmp (resPre_tmp (resPre_nil))) ?_
      simp (decide := true) only [Slots.get, if_true, if_false, and_true, resOf_two]
      rw [toIntE, if_neg (fun e => e hv), if_pos hb2]
    · try simp only [decide_eq_false_iff_not] at hb2
      refine awp_skip ?_
      change Awp _ _ _ _ _ _ _
      -- region 5  decimals.go:88
      refine awp_rseq [1, 4] (by rfl) fun K hK => ?_
      simp (decide := true) only [aOps_nil, ev, putD, Slots.put, Slots.get, Slots.keep, if_true, if_false, true_and, ↓ap_fieldAddr, pop_fieldAddr, fa27_1, ↓ap_loadL, apL_mk, pLoad_one ag9, ↓ap_assign, pop_assign, rd_any, List.getD_cons_zero, List.getD_cons_succ, Nat.zero_add, lv_str]
      repeat (with_reducible refine And.intro ?_ ?_; · first | trivial | omega | (intro hg; simp only [Bool.and_eq_true, Bool.or_eq_true, Bool.not_eq_true', Bool.and_eq_false_iff, Bool.or_eq_false_iff, Bool.not_eq_false', decide_eq_true_eq, decide_eq_false_iff_not, eqNil] at hg; omega) | (simp only [List.length_append, List.length_map, List.length_range, List.length_replicate, List.length_take, List.length_drop, List.length_cons, List.length_nil, List.length_set, List.length_reverse]; omega))
      apply hK; clear hK K
      refine awp_seq ?_
      -- region 6  decimals.go:89
      refine awp_rseq [4, 18] (by rfl) fun K hK => ?_
      simp (decide := true) only [aOps_nil, ev, putD, Slots.put, Slots.get, Slots.keep, if_true, if_false, true_and, ↓ap_fieldAddr, pop_fieldAddr, fa27_0, ↓ap_loadL, apL_mk, pLoad_one ag4, rd_any, List.getD_cons_zero, Nat.zero_add, lv_bool]
      repeat (with_reducible refine And.intro ?_ ?_; · first | trivial | omega | (intro hg; simp only [Bool.and_eq_true, Bool.or_eq_true, Bool.not_eq_true', Bool.and_eq_false_iff, Bool.or_eq_false_iff, Bool.not_eq_false', decide_eq_true_eq, decide_eq_false_iff_not, eqNil] at hg; omega) | (simp only [List.length_append, List.length_map, List.length_range, List.length_replicate, List.length_take, List.length_drop, List.length_cons, List.length_nil, List.length_set, List.length_reverse]; omega))
      apply hK; clear hK K
      refine awp_joinT [4] (fun s : List UInt8 => [(4, .str s)]) (fun s : List UInt8 => h.set k0q0 ⟨[.bool d.neg, .str d.dig, .int .i64 d.scale], 0⟩) (fun s : List UInt8 => s = (if d.neg = true then 45 :: d.dig else d.dig)) ?_ ?_
      · refine awp_cond (b := _) rfl (fun hb3 => ?_) (fun hb3 => ?_)
        · try simp only [decide_eq_true_eq, decide_eq_false_iff_not, Bool.not_eq_true', Bool.not_eq_false', Bool.and_eq_true, Bool.and_eq_false_iff, Bool.or_eq_true, Bool.or_eq_false_iff, Bool.true_eq, Bool.false_eq, reduceCtorEq] at hb3
          -- region 7  decimals.go:90
          refine awp_r [4] (by rfl) ?_
          simp (decide := true) only [aOps_nil, ev, absV, absS, putD, Slots.put, Slots.get, Slots.keep, if_true, if_false, true_and, ↓ap_move, pop_move, ↓ap_binOp, pop_binOp, isNilC_tmp, cond_false, pBinX_str, pS_add, ↓ap_assign, pop_assign]
          repeat (with_reducible refine And.intro ?_ ?_; · first | trivial | omega | (intro hg; simp only [Bool.and_eq_true, Bool.or_eq_true, Bool.not_eq_true', Bool.and_eq_false_iff, Bool.or_eq_false_iff, Bool.not_eq_false', decide_eq_true_eq, decide_eq_false_iff_not, eqNil] at hg; omega) | (simp only [List.length_cons, List.length_nil]; omega))
          try simp only [thenA_normal]
          first
          | exact ⟨_, rfl, Sub.refl _, by rw [if_pos hb3]; rfl⟩
          | exact ⟨_, rfl, Sub.refl _, by rw [if_neg (by rw [hb3]; decide)]⟩
        · try simp only [decide_eq_true_eq, decide_eq_false_iff_not, Bool.not_eq_true', Bool.not_eq_false', Bool.and_eq_true, Bool.and_eq_false_iff, Bool.or_eq_true, Bool.or_eq_false_iff, Bool.true_eq, Bool.false_eq, reduceCtorEq] at hb3
          refine awp_skip ?_
          try simp only [thenA_normal]
          first
          | exact ⟨_, rfl, Sub.refl _, by rw [if_pos hb3]; rfl⟩
          | exact ⟨_, rfl, Sub.refl _, by rw [if_neg (by rw [hb3]; decide)]⟩
      · rintro s hs
        subst hs
        -- region 8  decimals.go:92
        refine awp_rseq [5, 6] (by rfl) fun K hK => ?_
        simp (decide := true) only [ev, putD, Slots.put, Slots.get, if_true, if_false, true_and, ↓ap_move, pop_move]
        repeat (with_reducible refine And.intro ?_ ?_; · first | trivial | omega | (intro hg; simp only [Bool.and_eq_true, Bool.or_eq_true, Bool.not_eq_true', Bool.and_eq_false_iff, Bool.or_eq_false_iff, Bool.not_eq_false', decide_eq_true_eq, decide_eq_false_iff_not, eqNil] at hg; omega) | (simp only [List.length_append, List.length_map, List.length_range, List.length_replicate, List.length_take, List.length_drop, List.length_cons, List.length_nil, List.length_set, List.length_reverse]; omega))
        refine aOps_call (by rfl) (by rfl) (c_ParseInt w₀ he _ d.neg d.dig dd nd (by omega)) fun x8q1 h8q1 hx8q1 => ?_
        obtain ⟨⟨n, rfl, hn⟩, rfl⟩ := hx8q1
        simp (decide := true) only [aOps_nil, ev, putD, Slots.put, Slots.get, Slots.keep, if_true, if_false, true_and, ↓ap_move, pop_move, ↓ap_extract, pop_extract, pExt_tuple, List.length_cons, List.length_nil, List.getD_cons_zero, List.getD_cons_succ, ↓ap_assign, pop_assign, List.getD_cons_zero, List.getD_cons_succ, Nat.zero_add, Nat.reduceAdd]
        repeat (with_reducible refine And.intro ?_ ?_; · first | trivial | omega | (intro hg; simp only [Bool.and_eq_true, Bool.or_eq_true, Bool.not_eq_true', Bool.and_eq_false_iff, Bool.or_eq_false_iff, Bool.not_eq_false', decide_eq_true_eq, decide_eq_false_iff_not, eqNil] at hg; omega) | (simp only [List.length_append, List.length_map, List.length_range, List.length_replicate, List.length_take, List.length_drop, List.length_cons, List.length_nil, List.length_set, List.length_reverse]; omega))
        apply hK; clear hK K
        refine awp_seq ?_
        -- region 9  decimals.go:93
        refine awp_rseq [5, 27] (by rfl) fun K hK => ?_
        simp (decide := true) only [aOps_nil, ev, absV, absS, putD, Slots.put, Slots.get, Slots.keep, if_true, if_false, true_and, ↓ap_move, pop_move, ↓ap_binOp, pop_binOp, isNilC_nil, cond_true, pIfNil_errA]
        repeat (with_reducible refine And.intro ?_ ?_; · first | trivial | omega | (intro hg; simp only [Bool.and_eq_true, Bool.or_eq_true, Bool.not_eq_true', Bool.and_eq_false_iff, Bool.or_eq_false_iff, Bool.not_eq_false', decide_eq_true_eq, decide_eq_false_iff_not, eqNil] at hg; omega) | (simp only [List.length_append, List.length_map, List.length_range, List.length_replicate, List.length_take, List.length_drop, List.length_cons, List.length_nil, List.length_set, List.length_reverse]; omega))
        apply hK; clear hK K
        refine awp_cond (b := _) rfl (fun hb4 => ?_) (fun hb4 => ?_)
        · try simp only [Bool.not_eq_true'] at hb4
          -- region 10  decimals.go:94
          refine awp_rseq [2, 3] (by rfl) fun K hK => ?_
          simp (decide := true) only [aOps_nil, ev, absV, absS, putD, Slots.put, Slots.keep, if_true, if_false, true_and, ↓ap_assign, pop_assign]
          repeat (with_reducible refine And.intro ?_ ?_; · first | trivial | omega | (intro hg; simp only [Bool.and_eq_true, Bool.or_eq_true, Bool.not_eq_true', Bool.and_eq_false_iff, Bool.or_eq_false_iff, Bool.not_eq_false', decide_eq_true_eq, decide_eq_false_iff_not, eqNil] at hg; omega) | (simp only [List.length_append, List.length_map, List.length_range, List.length_replicate, List.length_take, List.length_drop, List.length_cons, List.length_nil, List.length_set, List.length_reverse]; omega))
          apply hK; clear hK K
          refine awp_ret ?_
          try simp only [thenA_ret]
          refine retA_ret h (by repeat (first | exact Sub.refl _ | refine Sub.trans_set ?_ (by assumption))) (resPre_tmp (resPre_tmp (resPre_nil))) ?_
          simp (decide := true) only [Slots.get, if_true, if_false, and_true, resOf_two]
          rw [toIntE, if_neg (fun e => e hv), if_neg hb2, if_neg (by rw [hb4]; decide)]
        · try simp only [Bool.not_eq_false'] at hb4
          refine awp_skip ?_
          change Awp _ _ _ _ _ _ _
          -- region 11  decimals.go:96
          refine awp_rseq [2, 3] (by rfl) fun K hK => ?_
          simp (decide := true) only [aOps_nil, ev, absV, absS, putD, Slots.put, Slots.get, Slots.keep, if_true, if_false, true_and, ↓ap_move, pop_move, ↓ap_assign, pop_assign]
          repeat (with_reducible refine And.intro ?_ ?_; · first | trivial | omega | (intro hg; simp only [Bool.and_eq_true, Bool.or_eq_true, Bool.not_eq_true', Bool.and_eq_false_iff, Bool.or_eq_false_iff, Bool.not_eq_false', decide_eq_true_eq, decide_eq_false_iff_not, eqNil] at hg; omega) | (simp only [List.length_append, List.length_map, List.length_range, List.length_replicate, List.length_take, List.length_drop, List.length_cons, List.length_nil, List.length_set, List.length_reverse]; omega))
          apply hK; clear hK K
          refine awp_ret ?_
          try simp only [thenA_ret, inBlockA_ret]
          refine retA_ret h (by repeat (first | exact Sub.refl _ | refine Sub.trans_set ?_ (by assumption))) (resPre_tmp (resPre_tmp (resPre_nil))) ?_
          simp (decide := true) only [Slots.get, if_true, if_false, and_true, resOf_two]
          rw [toIntE, if_neg (fun e => e hv), if_neg hb2, if_pos hb4, hn hb4]
end Go.Proofs.YthiiakghjoeikaaGreatDoor
