/-
  Texts of this proof, joined: DcL, DcM, DcN, DcR.
  Conditions: none.
-/
import Derived.Test.YthiiakghjoeikaaGreatDoorMd
import Derived.Lib.ParseIntB
set_option linter.unusedSimpArgs false
set_option linter.unnecessarySimpa false
set_option linter.unusedVariables false
/-
  Contracts: Parse, Text, ToInt, Int of the package decimals, and what they call.
  Conditions: none.
-/
namespace Go.Proofs.YthiiakghjoeikaaGreatDoor
open Go.AM
open Go.Proofs
open Go.Dec
open Go.Lib (decDigits)
set_option maxRecDepth 100000

/-! ### strings.Cut at one byte -/
theorem indexByte_eq (c : UInt8) : ∀ s : List UInt8, Lib.indexByte s c = if c ∈ s then ((s.takeWhile (· != c)).length : Int) else -1
  | [] => by simp [Lib.indexByte]
  | b :: s => by
    have ih := indexByte_eq c s
    unfold Lib.indexByte
    by_cases e : b = c
    · subst e; simp
    · have e1 : (b == c) = false := by simpa using e
      have e2 : (b != c) = true := by simpa using e
      have e3 : ¬ c = b := fun h => e h.symm
      rw [e1, ih]
      by_cases hm : c ∈ s
      · simp only [hm, if_true, List.mem_cons, e3, or_true, List.takeWhile_cons, e2, List.length_cons, Bool.false_eq_true, if_false]
        have : ((((s.takeWhile (· != c)).length : Int) == -1) = false) := by simp
        rw [this]
        simp
      · simp [hm, e3]
def cutP (s : List UInt8) (c : UInt8) : List UInt8 × List UInt8 × Bool := if c ∈ s then (s.takeWhile (· != c), (s.dropWhile (· != c)).drop 1, true) else (s, [], false)
theorem drop_while_ne (c : UInt8) : ∀ s : List UInt8, c ∈ s → s.dropWhile (· != c) ≠ []
  | b :: s, hm => by
    rw [List.dropWhile_cons]
    split
    · rename_i hb
      have e : c ≠ b := fun e => by subst e; simp at hb
      exact drop_while_ne c s ((List.mem_cons.1 hm).resolve_left e)
    · simp
theorem numB_all {s : List UInt8} (h : numB s = true) : s.all dg = true := by
  unfold numB at h
  rw [Bool.and_eq_true] at h
  exact h.2
theorem take_while_len (s : List UInt8) (c : UInt8) : (s.takeWhile (· != c)).length ≤ s.length ∧ (c ∈ s → (s.takeWhile (· != c)).length < s.length) := by
  have h := congrArg List.length (List.takeWhile_append_dropWhile (p := (· != c)) (l := s))
  rw [List.length_append] at h
  refine ⟨by omega, fun hm => ?_⟩
  have := List.length_pos_iff.2 (drop_while_ne c s hm)
  omega
theorem c_indexByte (w₀ : World) (h : AHeap) (s : List UInt8) (c : UInt8) : ACall Tryz.prog w₀ 112 [.str s, .int .u8 c.toNat] h (fun v h' => v = .int .i64 (Lib.indexByte s c) ∧ h' = h) := by
  refine acall_of_calls (vals := [.string ⟨⟨s⟩⟩, .int .u8 c.toNat]) (val := .int .i64 (Lib.indexByte s c)) Tryz.func112 rfl rfl (fun φ vs hv => VRs_si hv) (fun φ => rfl) fun w => ?_
  refine (Tryz.stringslite_IndexByte ⟨⟨s⟩⟩ (c.toNat : Int) w).mono fun e w' ⟨e1, e2⟩ => ⟨?_, ?_⟩
  · rw [e1]
    simp
  · subst e2; exact Go.RowKit.Below.refl _ _
theorem c_index1 (w₀ : World) (h : AHeap) (s : List UInt8) (c : UInt8) (hl : s.length ≤ 9223372036854775807) :
    ACall Tryz.prog w₀ 92 [.str s, .str [c]] h (fun v h' => v = .int .i64 (Lib.indexByte s c) ∧ h' = h) := by
  refine acall_intro (n := 143) (rs := [.tmp 4]) Tryz.func92 rfl rfl rfl rfl (Nat.le_of_ble_eq_true rfl) ?_
  simp only [initSlots]
  -- region 0  strings.go:28
  refine awp_rseq [0, 1] (by rfl) fun K hK => ?_
  simp (decide := true) only [aOps_nil, ev, absV, absS, putD, Slots.put, Slots.keep, if_true, if_false, true_and, ↓ap_assign, pop_assign, Nat.zero_add]
  repeat (with_reducible refine And.intro ?_ ?_; · first | trivial | omega | (intro hg; simp only [Bool.and_eq_true, Bool.or_eq_true, Bool.not_eq_true', Bool.and_eq_false_iff, Bool.or_eq_false_iff, Bool.not_eq_false', decide_eq_true_eq, decide_eq_false_iff_not, eqNil] at hg; omega) )
  apply hK; clear hK K
  -- region 1  strings.go:29
  refine awp_rseq [0, 1, 5] (by rfl) fun K hK => ?_
  simp (decide := true) only [aOps_nil, ev, putD, Slots.put, Slots.get, Slots.keep, if_true, if_false, true_and, ↓ap_move, pop_move, ↓ap_len, pop_len, pLen_str Tryz.underlying9, ↓ap_assign, pop_assign, List.length_cons, List.length_nil, Nat.zero_add, show ((1 : Nat) : Int) = 1 from rfl]
  repeat (with_reducible refine And.intro ?_ ?_; · first | trivial | omega | (intro hg; simp only [Bool.and_eq_true, Bool.or_eq_true, Bool.not_eq_true', Bool.and_eq_false_iff, Bool.or_eq_false_iff, Bool.not_eq_false', decide_eq_true_eq, decide_eq_false_iff_not, eqNil] at hg; omega) )
  apply hK; clear hK K
  refine awp_seq ?_
  refine awp_block ?_
  -- region 2  strings.go:31
  refine awp_rseq [0, 1, 5, 16] (by rfl) fun K hK => ?_
  simp (decide := true) only [aOps_nil, ev, absV, absS, putD, Slots.put, Slots.get, Slots.keep, if_true, if_false, true_and, ↓ap_move, pop_move, ↓ap_binOp, pop_binOp, isNilC_int, cond_false, pBinX_int, pI_eql, ↓ag_move, agP, agQ_some, nthDst, gKnown_bool, guardB_bool_false, implies_true, decide_false, Bool.not_false, condV_true, Bool.false_or, ↓ag_binOp, isNilC_tmp, pBinX_str, pS_eql, ↓ap_pick, pop_pick, pPick_bool, pickV_or, ↓ap_assign, pop_assign]
  repeat (with_reducible refine And.intro ?_ ?_; · first | trivial | omega | (intro hg; simp only [Bool.and_eq_true, Bool.or_eq_true, Bool.not_eq_true', Bool.and_eq_false_iff, Bool.or_eq_false_iff, Bool.not_eq_false', decide_eq_true_eq, decide_eq_false_iff_not, eqNil] at hg; omega) )
  apply hK; clear hK K
  refine awp_cond (b := _) rfl (fun hb1 => ?_) (fun hb1 => ?_)
  · try simp only [decide_eq_true_eq] at hb1
    -- region 3  strings.go:32
    refine awp_rseq [4] (by rfl) fun K hK => ?_
    simp (decide := true) only [aOps_nil, ev, absV, absS, putD, Slots.put, Slots.keep, if_true, if_false, true_and, ↓ap_assign, pop_assign]
    repeat (with_reducible refine And.intro ?_ ?_; · first | trivial | omega | (intro hg; simp only [Bool.and_eq_true, Bool.or_eq_true, Bool.not_eq_true', Bool.and_eq_false_iff, Bool.or_eq_false_iff, Bool.not_eq_false', decide_eq_true_eq, decide_eq_false_iff_not, eqNil] at hg; omega) )
    apply hK; clear hK K
    refine awp_ret ?_
    try simp only [thenA_ret, inBlockA_ret]
    refine retA_ret _ (Sub.refl _) (resPre_tmp (resPre_nil)) ?_
    simp (decide := true) only [Slots.get, if_true, and_true, resOf_one]
    rw [← hb1]; simp [Lib.indexByte]
  · try simp only [decide_eq_false_iff_not] at hb1
    -- region 4  strings.go:33
    refine awp_rseq [0, 1, 5, 24] (by rfl) fun K hK => ?_
    simp (decide := true) only [aOps_nil, ev, absV, absS, putD, Slots.put, Slots.get, Slots.keep, if_true, if_false, true_and, ↓ap_move, pop_move, ↓ap_binOp, pop_binOp, isNilC_int, cond_false, pBinX_int, pI_eql, ↓ap_assign, pop_assign]
    repeat (with_reducible refine And.intro ?_ ?_; · first | trivial | omega | (intro hg; simp only [Bool.and_eq_true, Bool.or_eq_true, Bool.not_eq_true', Bool.and_eq_false_iff, Bool.or_eq_false_iff, Bool.not_eq_false', decide_eq_true_eq, decide_eq_false_iff_not, eqNil] at hg; omega) )
    apply hK; clear hK K
    refine awp_cond (b := _) rfl (fun hb2 => ?_) (fun hb2 => ?_)
    · try simp only [decide_eq_true_eq] at hb2
      -- region 5  strings.go:34
      refine awp_rseq [4] (by rfl) fun K hK => ?_
      simp (decide := true) only [ev, absV, absS, putD, Slots.put, Slots.get, if_true, if_false, true_and, and_true, ↓ap_move, pop_move, ↓ap_index, pop_index, pIndex_str Tryz.underlying9, List.length_cons, List.length_nil, Nat.zero_add, List.getD_cons_zero, Int.toNat_zero, show ((1 : Nat) : Int) = 1 from rfl]
      repeat (with_reducible refine And.intro ?_ ?_; · first | trivial | omega | (intro hg; simp only [Bool.and_eq_true, Bool.or_eq_true, Bool.not_eq_true', Bool.and_eq_false_iff, Bool.or_eq_false_iff, Bool.not_eq_false', decide_eq_true_eq, decide_eq_false_iff_not, eqNil] at hg; omega) )
      refine aOps_callV (V := .int .i64 (Lib.indexByte s c)) (by rfl) (by rfl) (c_indexByte w₀ _ s c) ?_
      simp (decide := true) only [aOps_nil, ev, putD, Slots.put, Slots.get, Slots.keep, if_true, if_false, true_and, ↓ap_assign, pop_assign]
      repeat (with_reducible refine And.intro ?_ ?_; · first | trivial | omega | (intro hg; simp only [Bool.and_eq_true, Bool.or_eq_true, Bool.not_eq_true', Bool.and_eq_false_iff, Bool.or_eq_false_iff, Bool.not_eq_false', decide_eq_true_eq, decide_eq_false_iff_not, eqNil] at hg; omega) )
      apply hK; clear hK K
      refine awp_ret ?_
      try simp only [thenA_ret, inBlockA_ret]
      refine retA_ret _ (Sub.refl _) (resPre_tmp (resPre_nil)) ?_
      simp (decide := true) only [Slots.get, if_true, and_true, resOf_one]
      all_goals first | rfl | exact ⟨rfl, rfl⟩ | (simp (decide := true) only [if_true, if_false, *]; done) | (trace_state; fail)
    · try simp only [decide_eq_false_iff_not] at hb2
      exact absurd trivial hb2
theorem c_cut1L (w₀ : World) (h : AHeap) (s : List UInt8) (c : UInt8) (hl : s.length ≤ 9223372036854775807) :
    ACall Tryz.prog w₀ 65 [.str s, .str [c]] h (fun v h' => v = .tuple [.str (cutP s c).1, .str (cutP s c).2.1, .bool (cutP s c).2.2] ∧ h' = h) := by
  have hi := indexByte_eq c s
  obtain ⟨t1, t2⟩ := take_while_len s c
  have hib : -1 ≤ Lib.indexByte s c ∧ Lib.indexByte s c < s.length ∨ Lib.indexByte s c = -1 := by
    rw [hi]
    split
    · rename_i hm
      have := t2 hm
      omega
    · exact .inr rfl
  refine acall_intro (n := 23) (rs := [.tmp 4, .tmp 5, .tmp 6]) Tryz.func65 rfl rfl rfl rfl (Nat.le_of_ble_eq_true rfl) ?_
  simp only [initSlots]
  -- region 0  strings.go:80
  refine awp_rseq [0, 1] (by rfl) fun K hK => ?_
  simp (decide := true) only [aOps_nil, ev, absV, absS, putD, Slots.put, Slots.keep, if_true, if_false, true_and, ↓ap_assign, pop_assign, Nat.zero_add]
  repeat (with_reducible refine And.intro ?_ ?_; · first | trivial | omega | (intro hg; simp only [Bool.and_eq_true, Bool.or_eq_true, Bool.not_eq_true', Bool.and_eq_false_iff, Bool.or_eq_false_iff, Bool.not_eq_false', decide_eq_true_eq, decide_eq_false_iff_not, eqNil] at hg; omega) | (simp only [List.length_append, List.length_map, List.length_range, List.length_replicate, List.length_take, List.length_drop, List.length_cons, List.length_nil, List.length_set, List.length_reverse]; omega))
  apply hK; clear hK K
  refine awp_seq ?_
  -- region 1  strings.go:81
  refine awp_rseq [0, 1, 7] (by rfl) fun K hK => ?_
  simp (decide := true) only [ev, putD, Slots.put, Slots.get, if_true, if_false, true_and, ↓ap_move, pop_move]
  repeat (with_reducible refine And.intro ?_ ?_; · first | trivial | omega | (intro hg; simp only [Bool.and_eq_true, Bool.or_eq_true, Bool.not_eq_true', Bool.and_eq_false_iff, Bool.or_eq_false_iff, Bool.not_eq_false', decide_eq_true_eq, decide_eq_false_iff_not, eqNil] at hg; omega) | (simp only [List.length_append, List.length_map, List.length_range, List.length_replicate, List.length_take, List.length_drop, List.length_cons, List.length_nil, List.length_set, List.length_reverse]; omega))
  refine aOps_callV (V := .int .i64 (Lib.indexByte s c)) (by rfl) (by rfl) (c_index1 w₀ _ s c hl) ?_
  simp (decide := true) only [aOps_nil, ev, putD, Slots.put, Slots.get, Slots.keep, if_true, if_false, true_and, ↓ap_assign, pop_assign]
  repeat (with_reducible refine And.intro ?_ ?_; · first | trivial | omega | (intro hg; simp only [Bool.and_eq_true, Bool.or_eq_true, Bool.not_eq_true', Bool.and_eq_false_iff, Bool.or_eq_false_iff, Bool.not_eq_false', decide_eq_true_eq, decide_eq_false_iff_not, eqNil] at hg; omega) | (simp only [List.length_append, List.length_map, List.length_range, List.length_replicate, List.length_take, List.length_drop, List.length_cons, List.length_nil, List.length_set, List.length_reverse]; omega))
  apply hK; clear hK K
  -- region 2  strings.go:81
  refine awp_rseq [0, 1, 7, 12] (by rfl) fun K hK => ?_
  simp (decide := true) only [aOps_nil, ev, absV, absS, putD, Slots.put, Slots.get, Slots.keep, if_true, if_false, true_and, ↓ap_move, pop_move, ↓ap_binOp, pop_binOp, isNilC_int, cond_false, pBinX_int, pI_geq]
  repeat (with_reducible refine And.intro ?_ ?_; · first | trivial | omega | (intro hg; simp only [Bool.and_eq_true, Bool.or_eq_true, Bool.not_eq_true', Bool.and_eq_false_iff, Bool.or_eq_false_iff, Bool.not_eq_false', decide_eq_true_eq, decide_eq_false_iff_not, eqNil] at hg; omega) | (simp only [List.length_append, List.length_map, List.length_range, List.length_replicate, List.length_take, List.length_drop, List.length_cons, List.length_nil, List.length_set, List.length_reverse]; omega))
  apply hK; clear hK K
  refine awp_cond (b := _) rfl (fun hb1 => ?_) (fun hb1 => ?_)
  · try simp only [decide_eq_true_eq] at hb1
    -- region 3  strings.go:82
    refine awp_dseq_all [4, 5, 6] mixed (by kernel_rfl) (by rfl) (by rfl) fun K hK => ?_
    simp (decide := true) only [ev, putD, Slots.put, Slots.get, if_true, if_false, true_and, ↓ap_move, pop_move, ↓ap_slice, pop_slice, evO, pSliceS_0i Tryz.underlying9, pSliceS_i0 Tryz.underlying9, pSliceS, bndA_none, bndA_int, ↓ap_len, pop_len, pLen_str Tryz.underlying9, ↓ap_binOp, pop_binOp, isNilC_tmp, cond_false, pBinX_int, pI_add, List.length_cons, List.length_nil, Nat.zero_add, show ((1 : Nat) : Int) = 1 from rfl]
    try simp (disch := omega) only [wrap_i64]
    try simp (decide := true) only [aOps_nil, ev, absV, absS, putD, Slots.put, Slots.get, Slots.keep, if_true, if_false, true_and, ↓ap_assign, pop_assign]
    repeat (with_reducible refine And.intro ?_ ?_; · first | trivial | omega | (intro hg; simp only [Bool.and_eq_true, Bool.or_eq_true, Bool.not_eq_true', Bool.and_eq_false_iff, Bool.or_eq_false_iff, Bool.not_eq_false', decide_eq_true_eq, decide_eq_false_iff_not, eqNil] at hg; omega) | (simp only [List.length_append, List.length_map, List.length_range, List.length_replicate, List.length_take, List.length_drop, List.length_cons, List.length_nil, List.length_set, List.length_reverse]; omega))
    apply hK; clear hK K
    refine awp_ret ?_
    try simp only [thenA_ret]
    refine retA_ret _ (Sub.refl _) (resPre_tmp (resPre_tmp (resPre_tmp (resPre_nil)))) ?_
    simp (decide := true) only [Slots.get, if_true, if_false, and_true, resOf_three]
    have hm : c ∈ s := by
      refine Classical.byContradiction fun hn => ?_
      rw [if_neg hn] at hi
      omega
    rw [if_pos hm] at hi
    have e1 := List.take_left (l₁ := s.takeWhile (· != c)) (l₂ := s.dropWhile (· != c))
    have e2 := List.drop_left (l₁ := s.takeWhile (· != c)) (l₂ := s.dropWhile (· != c))
    rw [List.takeWhile_append_dropWhile] at e1 e2
    rw [cutP, if_pos hm, hi]
    have e3 : (((s.takeWhile (· != c)).length : Int) + 1).toNat = (s.takeWhile (· != c)).length + 1 := by omega
    simp only [Int.toNat_natCast, Nat.sub_zero, List.drop_zero, e1, e3]
    rw [List.take_of_length_le (by rw [List.length_drop]; omega), ← List.drop_drop, e2]
  · try simp only [decide_eq_false_iff_not] at hb1
    refine awp_skip ?_
    change Awp _ _ _ _ _ _ _
    -- region 4  strings.go:84
    refine awp_rseq [4, 5, 6] (by rfl) fun K hK => ?_
    simp (decide := true) only [aOps_nil, ev, absV, absS, putD, Slots.put, Slots.get, Slots.keep, if_true, if_false, true_and, ↓ap_move, pop_move, ↓ap_assign, pop_assign]
    repeat (with_reducible refine And.intro ?_ ?_; · first | trivial | omega | (intro hg; simp only [Bool.and_eq_true, Bool.or_eq_true, Bool.not_eq_true', Bool.and_eq_false_iff, Bool.or_eq_false_iff, Bool.not_eq_false', decide_eq_true_eq, decide_eq_false_iff_not, eqNil] at hg; omega) | (simp only [List.length_append, List.length_map, List.length_range, List.length_replicate, List.length_take, List.length_drop, List.length_cons, List.length_nil, List.length_set, List.length_reverse]; omega))
    apply hK; clear hK K
    refine awp_ret ?_
    try simp only [thenA_ret, inBlockA_ret]
    refine retA_ret _ (Sub.refl _) (resPre_tmp (resPre_tmp (resPre_tmp (resPre_nil)))) ?_
    simp (decide := true) only [Slots.get, if_true, if_false, and_true, resOf_three]
    have hm : c ∉ s := fun hm => by
      rw [if_pos hm] at hi
      omega
    rw [cutP, if_neg hm]
theorem c_cut1 (w₀ : World) (h : AHeap) (s : List UInt8) (c : UInt8) (hl : s.length ≤ 9223372036854775807) :
    ACall Tryz.prog w₀ 43 [.str s, .str [c]] h (fun v h' => v = .tuple [.str (cutP s c).1, .str (cutP s c).2.1, .bool (cutP s c).2.2] ∧ h' = h) := by
  refine acall_intro (n := 13) (rs := [.tmp 4, .tmp 5, .tmp 6]) Tryz.func43 rfl rfl rfl rfl (Nat.le_of_ble_eq_true rfl) ?_
  simp only [initSlots]
  -- region 0  strings.go:1271
  refine awp_rseq [0, 1] (by rfl) fun K hK => ?_
  simp (decide := true) only [aOps_nil, ev, absV, absS, putD, Slots.put, Slots.keep, if_true, if_false, true_and, ↓ap_assign, pop_assign]
  repeat (with_reducible refine And.intro ?_ ?_; · first | trivial | omega | (intro hg; simp only [Bool.and_eq_true, Bool.or_eq_true, Bool.not_eq_true', Bool.and_eq_false_iff, Bool.or_eq_false_iff, Bool.not_eq_false', decide_eq_true_eq, decide_eq_false_iff_not, eqNil] at hg; omega) )
  apply hK; clear hK K
  -- region 1  strings.go:1272
  refine awp_rseq [4, 5, 6] (by rfl) fun K hK => ?_
  simp (decide := true) only [ev, putD, Slots.put, Slots.get, if_true, if_false, true_and, ↓ap_move, pop_move]
  repeat (with_reducible refine And.intro ?_ ?_; · first | trivial | omega | (intro hg; simp only [Bool.and_eq_true, Bool.or_eq_true, Bool.not_eq_true', Bool.and_eq_false_iff, Bool.or_eq_false_iff, Bool.not_eq_false', decide_eq_true_eq, decide_eq_false_iff_not, eqNil] at hg; omega) )
  refine aOps_callV (V := .tuple [.str (cutP s c).1, .str (cutP s c).2.1, .bool (cutP s c).2.2]) (by rfl) (by rfl) (c_cut1L w₀ _ s c hl) ?_
  simp (decide := true) only [aOps_nil, ev, putD, Slots.put, Slots.get, Slots.keep, if_true, if_false, true_and, ↓ap_extract, pop_extract, pExt_tuple, List.length_cons, List.length_nil, List.getD_cons_zero, List.getD_cons_succ, ↓ap_assign, pop_assign]
  repeat (with_reducible refine And.intro ?_ ?_; · first | trivial | omega | (intro hg; simp only [Bool.and_eq_true, Bool.or_eq_true, Bool.not_eq_true', Bool.and_eq_false_iff, Bool.or_eq_false_iff, Bool.not_eq_false', decide_eq_true_eq, decide_eq_false_iff_not, eqNil] at hg; omega) )
  apply hK; clear hK K
  refine awp_ret ?_
  try simp only [thenA_ret, inBlockA_ret]
  refine retA_ret _ (Sub.refl _) (resPre_tmp (resPre_tmp (resPre_tmp (resPre_nil)))) ?_
  simp (decide := true) only [Slots.get, if_true, if_false, and_true, resOf_three]
  all_goals first | rfl | exact ⟨rfl, rfl⟩ | (simp (decide := true) only [if_true, if_false, *]; done) | (trace_state; fail)

/-! ### Parse -/
def parseE (s : List UInt8) : D × Int :=
  if 1000 < s.length then (noD, 4) else
  let rest := if [45].isPrefixOf s = true then Lib.trimPrefix s [45] else Lib.trimPrefix s [43]
  if ((cutP rest 46).2.2 = true ∧ (cutP rest 46).2.1 = []) ∨ numB ((cutP rest 46).1 ++ (cutP rest 46).2.1) = false then (noD, 4)
  else normE ([45].isPrefixOf s) (natOf ((cutP rest 46).1 ++ (cutP rest 46).2.1)) (cutP rest 46).2.1.length
theorem cutP_len (s : List UInt8) (c : UInt8) : (cutP s c).1.length + (cutP s c).2.1.length ≤ s.length := by
  unfold cutP
  have h := congrArg List.length (List.takeWhile_append_dropWhile (p := (· != c)) (l := s))
  rw [List.length_append] at h
  split
  · simp only [List.length_drop]; omega
  · simp
theorem trimPrefix_len (s p : List UInt8) : (Lib.trimPrefix s p).length ≤ s.length := by
  unfold Lib.trimPrefix
  split
  · simp
  · exact Nat.le_refl _
theorem c_Parse (w₀ : World) (h : AHeap) (s : List UInt8) (hl : s.length ≤ 9223372036854775807) :
    ACall Tryz.prog w₀ 15 [.str s] h (fun v h' => v = .tuple [decA (parseE s).1, .int .i64 (parseE s).2] ∧ h' = h) := by
  refine acall_intro (n := 50) (rs := [.cell 2 27, .tmp 3]) Tryz.func15 rfl rfl rfl rfl (Nat.le_of_ble_eq_true rfl) ?_
  simp only [initSlots]
  -- region 0  decimals.go:100
  refine awp_rseq [0, 2] (by rfl) fun K hK => ?_
  refine aOps_alloc ze27 (cs := [.bool false, .str [], .int .i64 0]) (by rfl) fun k0q0 hk0q0 => ?_
  try have hf_0q0 : h k0q0 = none := by first | assumption | (simp only [AHeap.set_none] at hk0q0; simp only [hk0q0])
  simp (decide := true) only [aOps_nil, ev, absV, absS, putD, Slots.put, Slots.keep, if_true, if_false, true_and, ↓ap_assign, pop_assign]
  repeat (with_reducible refine And.intro ?_ ?_; · first | trivial | omega | (intro hg; simp only [Bool.and_eq_true, Bool.or_eq_true, Bool.not_eq_true', Bool.and_eq_false_iff, Bool.or_eq_false_iff, Bool.not_eq_false', decide_eq_true_eq, decide_eq_false_iff_not, eqNil] at hg; omega) | (simp only [List.length_append, List.length_map, List.length_range, List.length_replicate, List.length_take, List.length_drop, List.length_cons, List.length_nil, List.length_set, List.length_reverse]; omega))
  apply hK; clear hK K
  refine awp_seq ?_
  -- region 1  decimals.go:101
  refine awp_rseq [0, 2, 11] (by rfl) fun K hK => ?_
  simp (decide := true) only [aOps_nil, ev, absV, absS, putD, Slots.put, Slots.get, Slots.keep, if_true, if_false, true_and, ↓ap_move, pop_move, ↓ap_len, pop_len, pLen_str Tryz.underlying9, ↓ap_binOp, pop_binOp, isNilC_int, cond_false, pBinX_int, pI_gtr]
  repeat (with_reducible refine And.intro ?_ ?_; · first | trivial | omega | (intro hg; simp only [Bool.and_eq_true, Bool.or_eq_true, Bool.not_eq_true', Bool.and_eq_false_iff, Bool.or_eq_false_iff, Bool.not_eq_false', decide_eq_true_eq, decide_eq_false_iff_not, eqNil] at hg; omega) | (simp only [List.length_append, List.length_map, List.length_range, List.length_replicate, List.length_take, List.length_drop, List.length_cons, List.length_nil, List.length_set, List.length_reverse]; omega))
  apply hK; clear hK K
  refine awp_cond (b := _) rfl (fun hb1 => ?_) (fun hb1 => ?_)
  · try simp only [decide_eq_true_eq] at hb1
    -- region 2  decimals.go:102
    refine awp_rseq [2, 3] (by rfl) fun K hK => ?_
    simp (decide := true) only [ev, absV, absS, putD, Slots.put, Slots.get, if_false, true_and, ↓ap_build, ↓pop_buildL, bld27_, evP, List.map_nil]
    repeat (with_reducible refine And.intro ?_ ?_; · first | trivial | omega | (intro hg; simp only [Bool.and_eq_true, Bool.or_eq_true, Bool.not_eq_true', Bool.and_eq_false_iff, Bool.or_eq_false_iff, Bool.not_eq_false', decide_eq_true_eq, decide_eq_false_iff_not, eqNil] at hg; omega) | (simp only [List.length_append, List.length_map, List.length_range, List.length_replicate, List.length_take, List.length_drop, List.length_cons, List.length_nil, List.length_set, List.length_reverse]; omega))
    refine aOps_store (by rfl) (by rfl) (by repeat (first | exact AHeap.set_same _ _ _ | assumption | refine (AHeap.set_ne _ _ (by first | assumption | exact Ne.symm (by assumption))).trans ?_)) sz27 (by rfl) (by rfl) (by first | exact Nat.le_refl _ | decide | (simp; done) | (simp; omega)) (Nat.zero_le _) (by rfl) ?_
    simp only [AHeap.set_set, AVal.cells]
    simp (decide := true) only [aOps_nil, ev, absV, absS, putD, Slots.put, Slots.get, Slots.keep, if_true, if_false, true_and, ↓ap_assign, pop_assign, setAt, List.set_cons_zero, List.set_cons_succ, Nat.zero_add, Nat.reduceAdd]
    repeat (with_reducible refine And.intro ?_ ?_; · first | trivial | omega | (intro hg; simp only [Bool.and_eq_true, Bool.or_eq_true, Bool.not_eq_true', Bool.and_eq_false_iff, Bool.or_eq_false_iff, Bool.not_eq_false', decide_eq_true_eq, decide_eq_false_iff_not, eqNil] at hg; omega) | (simp only [List.length_append, List.length_map, List.length_range, List.length_replicate, List.length_take, List.length_drop, List.length_cons, List.length_nil, List.length_set, List.length_reverse]; omega))
    apply hK; clear hK K
    refine awp_ret ?_
    try simp only [thenA_ret]
    refine retA_ret h (by repeat (first | exact Sub.refl _ | assumption | refine Sub.trans_set ?_ (by assumption))) (?_) ?_
    · simp (decide := true) only [resPre, resV_tmp, resV_cell, Slots.get, if_true, if_false, and_true, resV_tmp, resV_cell, pLoad_agg ag27 sz27, rd_set, cellsAt, List.getD_cons_zero, List.getD_cons_succ, Nat.zero_add, Nat.reduceAdd, lv_bool, lv_int, lv_str, allLive, Bool.and_true, cellsAt, List.getD_cons_zero, List.getD_cons_succ, Nat.zero_add, Nat.reduceAdd, lv_bool, lv_int, lv_str, allLive, Bool.and_true]
    
    simp (decide := true) only [Slots.get, if_true, if_false, and_true, resOfG_two, resV_tmp, resV_cell, pLoad_agg ag27 sz27, rd_set, cellsAt, List.getD_cons_zero, List.getD_cons_succ, Nat.zero_add, Nat.reduceAdd, lv_bool, lv_int, lv_str, allLive, Bool.and_true, cellsAt, List.getD_cons_zero, List.getD_cons_succ, Nat.zero_add, Nat.reduceAdd, lv_bool, lv_int, lv_str, allLive, Bool.and_true, decA]
    rw [parseE, if_pos (by omega)]
    rfl
  · try simp only [decide_eq_false_iff_not] at hb1
    refine awp_skip ?_
    change Awp _ _ _ _ _ _ _
    -- region 3  decimals.go:104
    refine awp_rseq [0, 2, 4, 5] (by rfl) fun K hK => ?_
    simp (decide := true) only [ev, putD, Slots.put, Slots.get, if_true, if_false, true_and, ↓ap_move, pop_move]
    repeat (with_reducible refine And.intro ?_ ?_; · first | trivial | omega | (intro hg; simp only [Bool.and_eq_true, Bool.or_eq_true, Bool.not_eq_true', Bool.and_eq_false_iff, Bool.or_eq_false_iff, Bool.not_eq_false', decide_eq_true_eq, decide_eq_false_iff_not, eqNil] at hg; omega) | (simp only [List.length_append, List.length_map, List.length_range, List.length_replicate, List.length_take, List.length_drop, List.length_cons, List.length_nil, List.length_set, List.length_reverse]; omega))
    refine aOps_callV (V := .tuple [.str (Lib.trimPrefix s [45]), .bool ([45].isPrefixOf s)]) (by rfl) (by rfl) (c_cutPrefix w₀ _ s [45]) ?_
    simp (decide := true) only [aOps_nil, ev, putD, Slots.put, Slots.get, Slots.keep, if_true, if_false, true_and, ↓ap_move, pop_move, ↓ap_extract, pop_extract, pExt_tuple, List.length_cons, List.length_nil, List.getD_cons_zero, List.getD_cons_succ, ↓ap_assign, pop_assign, List.getD_cons_zero, List.getD_cons_succ, Nat.zero_add, Nat.reduceAdd]
    repeat (with_reducible refine And.intro ?_ ?_; · first | trivial | omega | (intro hg; simp only [Bool.and_eq_true, Bool.or_eq_true, Bool.not_eq_true', Bool.and_eq_false_iff, Bool.or_eq_false_iff, Bool.not_eq_false', decide_eq_true_eq, decide_eq_false_iff_not, eqNil] at hg; omega) | (simp only [List.length_append, List.length_map, List.length_range, List.length_replicate, List.length_take, List.length_drop, List.length_cons, List.length_nil, List.length_set, List.length_reverse]; omega))
    apply hK; clear hK K
    refine awp_seq ?_
    -- region 4  decimals.go:105
    refine awp_rseq [0, 2, 4, 5, 19] (by rfl) fun K hK => ?_
    simp (decide := true) only [aOps_nil, ev, putD, Slots.put, Slots.get, Slots.keep, if_true, if_false, true_and, ↓ap_move, pop_move, ↓ap_unOp, pop_unOp, pU_not]
    try simp (disch := omega) only [wrap_i64, wrap_u8]
    repeat (with_reducible refine And.intro ?_ ?_; · first | trivial | omega | (intro hg; simp only [Bool.and_eq_true, Bool.or_eq_true, Bool.not_eq_true', Bool.and_eq_false_iff, Bool.or_eq_false_iff, Bool.not_eq_false', decide_eq_true_eq, decide_eq_false_iff_not, eqNil] at hg; omega) | (simp only [List.length_append, List.length_map, List.length_range, List.length_replicate, List.length_take, List.length_drop, List.length_cons, List.length_nil, List.length_set, List.length_reverse]; omega))
    apply hK; clear hK K
    refine awp_joinT [2, 4, 5] (fun r : List UInt8 => [(2, .ptr (.own k0q0) 0), (4, .str r), (5, .bool ([45].isPrefixOf s))]) (fun r : List UInt8 => h.set k0q0 ⟨[.bool false, .str [], .int .i64 0], 0⟩) (fun r : List UInt8 => r = (if [45].isPrefixOf s = true then Lib.trimPrefix s [45] else Lib.trimPrefix s [43])) ?_ ?_
    · refine awp_cond (b := _) rfl (fun hb2 => ?_) (fun hb2 => ?_)
      · try simp only [Bool.not_eq_true'] at hb2
        -- region 5  decimals.go:106
        refine awp_r [2, 4, 5] (by rfl) ?_
        simp (decide := true) only [ev, putD, Slots.put, Slots.get, if_true, if_false, true_and, ↓ap_move, pop_move, decA]
        repeat (with_reducible refine And.intro ?_ ?_; · first | trivial | omega | (intro hg; simp only [Bool.and_eq_true, Bool.or_eq_true, Bool.not_eq_true', Bool.and_eq_false_iff, Bool.or_eq_false_iff, Bool.not_eq_false', decide_eq_true_eq, decide_eq_false_iff_not, eqNil] at hg; omega) | (simp only [List.length_append, List.length_map, List.length_range, List.length_replicate, List.length_take, List.length_drop, List.length_cons, List.length_nil, List.length_set, List.length_reverse]; omega))
        refine aOps_callV (V := .str (Lib.trimPrefix s [43])) (by rfl) (by rfl) (c_trimPrefix w₀ _ s [43]) ?_
        simp (decide := true) only [aOps_nil, ev, putD, Slots.put, Slots.get, Slots.keep, if_true, if_false, true_and, ↓ap_assign, pop_assign]
        repeat (with_reducible refine And.intro ?_ ?_; · first | trivial | omega | (intro hg; simp only [Bool.and_eq_true, Bool.or_eq_true, Bool.not_eq_true', Bool.and_eq_false_iff, Bool.or_eq_false_iff, Bool.not_eq_false', decide_eq_true_eq, decide_eq_false_iff_not, eqNil] at hg; omega) | (simp only [List.length_append, List.length_map, List.length_range, List.length_replicate, List.length_take, List.length_drop, List.length_cons, List.length_nil, List.length_set, List.length_reverse]; omega))
        try simp only [thenA_normal]
        first
        | exact ⟨_, rfl, Sub.refl _, by rw [if_neg (by rw [hb2]; decide)]⟩
        | exact ⟨_, rfl, Sub.refl _, by rw [if_pos hb2]⟩
      · try simp only [Bool.not_eq_false'] at hb2
        refine awp_skip ?_
        try simp only [thenA_normal]
        first
        | exact ⟨_, rfl, Sub.refl _, by rw [if_neg (by rw [hb2]; decide)]⟩
        | exact ⟨_, rfl, Sub.refl _, by rw [if_pos hb2]⟩
    · rintro r hr
      have hrl : r.length ≤ s.length := by rw [hr]; split <;> exact trimPrefix_len _ _
      have hcl := cutP_len r 46
      -- region 6  decimals.go:108
      refine awp_rseq [2, 5, 6, 7, 8] (by rfl) fun K hK => ?_
      simp (decide := true) only [ev, putD, Slots.put, Slots.get, if_true, if_false, true_and, ↓ap_move, pop_move]
      repeat (with_reducible refine And.intro ?_ ?_; · first | trivial | omega | (intro hg; simp only [Bool.and_eq_true, Bool.or_eq_true, Bool.not_eq_true', Bool.and_eq_false_iff, Bool.or_eq_false_iff, Bool.not_eq_false', decide_eq_true_eq, decide_eq_false_iff_not, eqNil] at hg; omega) | (simp only [List.length_append, List.length_map, List.length_range, List.length_replicate, List.length_take, List.length_drop, List.length_cons, List.length_nil, List.length_set, List.length_reverse]; omega))
      refine aOps_callV (V := .tuple [.str (cutP r 46).1, .str (cutP r 46).2.1, .bool (cutP r 46).2.2]) (by rfl) (by rfl) (c_cut1 w₀ _ r 46 (by omega)) ?_
      simp (decide := true) only [aOps_nil, ev, putD, Slots.put, Slots.get, Slots.keep, if_true, if_false, true_and, ↓ap_move, pop_move, ↓ap_extract, pop_extract, pExt_tuple, List.length_cons, List.length_nil, List.getD_cons_zero, List.getD_cons_succ, ↓ap_assign, pop_assign, List.getD_cons_zero, List.getD_cons_succ, Nat.zero_add, Nat.reduceAdd]
      repeat (with_reducible refine And.intro ?_ ?_; · first | trivial | omega | (intro hg; simp only [Bool.and_eq_true, Bool.or_eq_true, Bool.not_eq_true', Bool.and_eq_false_iff, Bool.or_eq_false_iff, Bool.not_eq_false', decide_eq_true_eq, decide_eq_false_iff_not, eqNil] at hg; omega) | (simp only [List.length_append, List.length_map, List.length_range, List.length_replicate, List.length_take, List.length_drop, List.length_cons, List.length_nil, List.length_set, List.length_reverse]; omega))
      apply hK; clear hK K
      refine awp_seq ?_
      -- region 7  decimals.go:109
      refine awp_rseq [2, 5, 6, 7, 39] (by rfl) fun K hK => ?_
      simp (decide := true) only [ev, absV, absS, putD, Slots.put, Slots.get, if_true, if_false, true_and, ↓ap_move, pop_move, ↓ag_move, agP, agQ_some, nthDst, gKnown_bool, guardB_bool_true, guardB_bool_false, implies_true, ↓ag_binOp, pop_binOp, isNilC_str, cond_false, cv_binl, cv_binr, cp_binl, cp_binr, pBinX_str, pS_eql, ↓ap_pick, pop_pick, pPick_bool, pickV_cond_l, pickV_and, isNilC_tmp, pS_add]
      repeat (with_reducible refine And.intro ?_ ?_; · first | trivial | omega | (intro hg; simp only [Bool.and_eq_true, Bool.or_eq_true, Bool.not_eq_true', Bool.and_eq_false_iff, Bool.or_eq_false_iff, Bool.not_eq_false', decide_eq_true_eq, decide_eq_false_iff_not, eqNil] at hg; omega) | (simp only [List.length_append, List.length_map, List.length_range, List.length_replicate, List.length_take, List.length_drop, List.length_cons, List.length_nil, List.length_set, List.length_reverse]; omega))
      first
      | (refine aOps_yes (by rfl) ?_; refine aOps_callV (V := .bool (numB ((cutP r 46).1 ++ (cutP r 46).2.1))) (by rfl) (by rfl) (c_number w₀ _ _ (by rw [List.length_append]; omega)) ?_)
      | (refine aOps_gcall (V := .bool (numB ((cutP r 46).1 ++ (cutP r 46).2.1))) (f := _) (cap := _) (xs := _) rfl (fun hg => ⟨rfl, ?_⟩) (fun hg => c_number w₀ _ _ (by rw [List.length_append]; omega)) ?_; · (simp (decide := true) only [gv, nthDst, Slots.get, if_true, if_false, guardB_bool_false] at hg; simp (decide := true) only [evs, ev, Slots.get, if_true, if_false, hg, condV_true, List.append_nil, List.map_cons, List.map_nil] <;> try rfl))
      simp (decide := true) only [aOps_nil, ev, absV, absS, putD, Slots.put, Slots.get, Slots.keep, if_true, if_false, true_and, gv, nthDst, guardB_bool_false, ↓ag_unOp, pop_unOp, agP, agQ_some, gKnown_bool, implies_true, pU_not, cv_un, cp_un, ↓ap_pick, pop_pick, pPick_bool, pickV_cond_r, pickV_or]
      try simp (disch := omega) only [wrap_i64, wrap_u8]
      repeat (with_reducible refine And.intro ?_ ?_; · first | trivial | omega | (intro hg; simp only [Bool.and_eq_true, Bool.or_eq_true, Bool.not_eq_true', Bool.and_eq_false_iff, Bool.or_eq_false_iff, Bool.not_eq_false', decide_eq_true_eq, decide_eq_false_iff_not, eqNil] at hg; omega) | (simp only [List.length_append, List.length_map, List.length_range, List.length_replicate, List.length_take, List.length_drop, List.length_cons, List.length_nil, List.length_set, List.length_reverse]; omega))
      apply hK; clear hK K
      refine awp_cond (b := _) rfl (fun hb3 => ?_) (fun hb3 => ?_)
      · try simp only [decide_eq_true_eq, Bool.not_eq_true', Bool.and_eq_true, Bool.or_eq_true] at hb3
        -- region 8  decimals.go:110
        refine awp_rseq [2, 3] (by rfl) fun K hK => ?_
        simp (decide := true) only [ev, absV, absS, putD, Slots.put, Slots.get, if_false, true_and, ↓ap_build, ↓pop_buildL, bld27_, evP, List.map_nil]
        repeat (with_reducible refine And.intro ?_ ?_; · first | trivial | omega | (intro hg; simp only [Bool.and_eq_true, Bool.or_eq_true, Bool.not_eq_true', Bool.and_eq_false_iff, Bool.or_eq_false_iff, Bool.not_eq_false', decide_eq_true_eq, decide_eq_false_iff_not, eqNil] at hg; omega) | (simp only [List.length_append, List.length_map, List.length_range, List.length_replicate, List.length_take, List.length_drop, List.length_cons, List.length_nil, List.length_set, List.length_reverse]; omega))
        refine aOps_store (by rfl) (by rfl) (by repeat (first | exact AHeap.set_same _ _ _ | assumption | refine (AHeap.set_ne _ _ (by first | assumption | exact Ne.symm (by assumption))).trans ?_)) sz27 (by rfl) (by rfl) (by first | exact Nat.le_refl _ | decide | (simp; done) | (simp; omega)) (Nat.zero_le _) (by rfl) ?_
        simp only [AHeap.set_set, AVal.cells]
        simp (decide := true) only [aOps_nil, ev, absV, absS, putD, Slots.put, Slots.get, Slots.keep, if_true, if_false, true_and, ↓ap_assign, pop_assign, setAt, List.set_cons_zero, List.set_cons_succ, Nat.zero_add, Nat.reduceAdd]
        repeat (with_reducible refine And.intro ?_ ?_; · first | trivial | omega | (intro hg; simp only [Bool.and_eq_true, Bool.or_eq_true, Bool.not_eq_true', Bool.and_eq_false_iff, Bool.or_eq_false_iff, Bool.not_eq_false', decide_eq_true_eq, decide_eq_false_iff_not, eqNil] at hg; omega) | (simp only [List.length_append, List.length_map, List.length_range, List.length_replicate, List.length_take, List.length_drop, List.length_cons, List.length_nil, List.length_set, List.length_reverse]; omega))
        apply hK; clear hK K
        refine awp_ret ?_
        try simp only [thenA_ret]
        refine retA_ret h (by repeat (first | exact Sub.refl _ | assumption | refine Sub.trans_set ?_ (by assumption))) (?_) ?_
        · simp (decide := true) only [resPre, resV_tmp, resV_cell, Slots.get, if_true, if_false, and_true, resV_tmp, resV_cell, pLoad_agg ag27 sz27, rd_set, cellsAt, List.getD_cons_zero, List.getD_cons_succ, Nat.zero_add, Nat.reduceAdd, lv_bool, lv_int, lv_str, allLive, Bool.and_true, cellsAt, List.getD_cons_zero, List.getD_cons_succ, Nat.zero_add, Nat.reduceAdd, lv_bool, lv_int, lv_str, allLive, Bool.and_true]
        
        simp (decide := true) only [Slots.get, if_true, if_false, and_true, resOfG_two, resV_tmp, resV_cell, pLoad_agg ag27 sz27, rd_set, cellsAt, List.getD_cons_zero, List.getD_cons_succ, Nat.zero_add, Nat.reduceAdd, lv_bool, lv_int, lv_str, allLive, Bool.and_true, cellsAt, List.getD_cons_zero, List.getD_cons_succ, Nat.zero_add, Nat.reduceAdd, lv_bool, lv_int, lv_str, allLive, Bool.and_true, decA]
        rw [parseE, if_neg (by omega)]
        simp only [← hr]
        rw [if_pos hb3]
        rfl
      · try simp only [decide_eq_false_iff_not, Bool.not_eq_false', Bool.and_eq_false_iff, Bool.or_eq_false_iff] at hb3
        have hb3' : ¬(((cutP r 46).2.2 = true ∧ (cutP r 46).2.1 = []) ∨ numB ((cutP r 46).1 ++ (cutP r 46).2.1) = false) := by
          rintro (⟨e1, e2⟩ | e)
          · rcases hb3.1 with q | q
            · rw [q] at e1; cases e1
            · exact q e2
          · rw [hb3.2] at e; cases e
        have hnum : numB ((cutP r 46).1 ++ (cutP r 46).2.1) = true := by
          cases hn : numB ((cutP r 46).1 ++ (cutP r 46).2.1) with
          | true => rfl
          | false => exact absurd (.inr hn) hb3'
        refine awp_skip ?_
        change Awp _ _ _ _ _ _ _
        -- region 9  decimals.go:112
        refine awp_rseq [2, 3] (by rfl) fun K hK => ?_
        simp (decide := true) only [ev, putD, Slots.put, Slots.get, if_true, if_false, true_and, ↓ap_move, pop_move, ↓ap_binOp, pop_binOp, isNilC_tmp, cond_false, pBinX_str, pS_add, ↓ap_len, pop_len, pLen_str Tryz.underlying9]
        repeat (with_reducible refine And.intro ?_ ?_; · first | trivial | omega | (intro hg; simp only [Bool.and_eq_true, Bool.or_eq_true, Bool.not_eq_true', Bool.and_eq_false_iff, Bool.or_eq_false_iff, Bool.not_eq_false', decide_eq_true_eq, decide_eq_false_iff_not, eqNil] at hg; omega) | (simp only [List.length_append, List.length_map, List.length_range, List.length_replicate, List.length_take, List.length_drop, List.length_cons, List.length_nil, List.length_set, List.length_reverse]; omega))
        refine aOps_callV (V := .tuple [decA (normE ([45].isPrefixOf s) (natOf ((cutP r 46).1 ++ (cutP r 46).2.1)) (cutP r 46).2.1.length).1, .int .i64 (normE ([45].isPrefixOf s) (natOf ((cutP r 46).1 ++ (cutP r 46).2.1)) (cutP r 46).2.1.length).2]) (by rfl) (by rfl) (c_normal w₀ _ _ _ _ (numB_all hnum) (by rw [List.length_append]; omega) (by omega) (by omega)) ?_
        simp (decide := true) only [ev, putD, Slots.put, Slots.get, if_true, if_false, true_and, ↓ap_extract, pop_extract, pExt_tuple, List.length_cons, List.length_nil, List.getD_cons_zero, List.getD_cons_succ, List.getD_cons_zero, List.getD_cons_succ, Nat.zero_add, Nat.reduceAdd, decA]
        repeat (with_reducible refine And.intro ?_ ?_; · first | trivial | omega | (intro hg; simp only [Bool.and_eq_true, Bool.or_eq_true, Bool.not_eq_true', Bool.and_eq_false_iff, Bool.or_eq_false_iff, Bool.not_eq_false', decide_eq_true_eq, decide_eq_false_iff_not, eqNil] at hg; omega) | (simp only [List.length_append, List.length_map, List.length_range, List.length_replicate, List.length_take, List.length_drop, List.length_cons, List.length_nil, List.length_set, List.length_reverse]; omega))
        refine aOps_store (by rfl) (by rfl) (by repeat (first | exact AHeap.set_same _ _ _ | assumption | refine (AHeap.set_ne _ _ (by first | assumption | exact Ne.symm (by assumption))).trans ?_)) sz27 (by rfl) (by rfl) (by first | exact Nat.le_refl _ | decide | (simp; done) | (simp; omega)) (Nat.zero_le _) (by rfl) ?_
        simp only [AHeap.set_set, AVal.cells]
        simp (decide := true) only [aOps_nil, ev, putD, Slots.put, Slots.get, Slots.keep, if_true, if_false, true_and, ↓ap_assign, pop_assign, setAt, List.set_cons_zero, List.set_cons_succ, Nat.zero_add, Nat.reduceAdd]
        repeat (with_reducible refine And.intro ?_ ?_; · first | trivial | omega | (intro hg; simp only [Bool.and_eq_true, Bool.or_eq_true, Bool.not_eq_true', Bool.and_eq_false_iff, Bool.or_eq_false_iff, Bool.not_eq_false', decide_eq_true_eq, decide_eq_false_iff_not, eqNil] at hg; omega) | (simp only [List.length_append, List.length_map, List.length_range, List.length_replicate, List.length_take, List.length_drop, List.length_cons, List.length_nil, List.length_set, List.length_reverse]; omega))
        apply hK; clear hK K
        refine awp_ret ?_
        try simp only [thenA_ret, inBlockA_ret]
        refine retA_ret h (by repeat (first | exact Sub.refl _ | assumption | refine Sub.trans_set ?_ (by assumption))) (?_) ?_
        · simp (decide := true) only [resPre, resV_tmp, resV_cell, Slots.get, if_true, if_false, and_true, resV_tmp, resV_cell, pLoad_agg ag27 sz27, rd_set, cellsAt, List.getD_cons_zero, List.getD_cons_succ, Nat.zero_add, Nat.reduceAdd, lv_bool, lv_int, lv_str, allLive, Bool.and_true, cellsAt, List.getD_cons_zero, List.getD_cons_succ, Nat.zero_add, Nat.reduceAdd, lv_bool, lv_int, lv_str, allLive, Bool.and_true]
        
        simp (decide := true) only [Slots.get, if_true, if_false, and_true, resOfG_two, resV_tmp, resV_cell, pLoad_agg ag27 sz27, rd_set, cellsAt, List.getD_cons_zero, List.getD_cons_succ, Nat.zero_add, Nat.reduceAdd, lv_bool, lv_int, lv_str, allLive, Bool.and_true, cellsAt, List.getD_cons_zero, List.getD_cons_succ, Nat.zero_add, Nat.reduceAdd, lv_bool, lv_int, lv_str, allLive, Bool.and_true, decA]
        rw [parseE, if_neg (by omega)]
        simp only [← hr]
        rw [if_neg hb3']

/-! ### Text -/
def textE (d : D) : List UInt8 :=
  if checkE d ≠ 0 then [] else
  let s := padL d.dig (d.scale + 1)
  let t := if 0 < d.scale then s.take ((s.length : Int) - d.scale).toNat ++ [46] ++ s.drop ((s.length : Int) - d.scale).toNat else s
  if d.neg = true then [45] ++ t else t
theorem c_Text (w₀ : World) (h : AHeap) (d : D) (hl : d.dig.length ≤ 9223372036854775807) :
    ACall Tryz.prog w₀ 16 [decA d] h (fun v h' => v = .str (textE d) ∧ h' = h) := by
  refine acall_intro (n := 35) (rs := [.tmp 2]) Tryz.func16 rfl rfl rfl rfl (Nat.le_of_ble_eq_true rfl) ?_
  simp only [initSlots]
  -- region 0  decimals.go:121
  refine awp_rseq [1] (by rfl) fun K hK => ?_
  refine aOps_box (by rfl) (by rfl) (by rfl) fun k0q0 hk0q0 => ?_
  try have hf_0q0 : h k0q0 = none := by first | assumption | (simp only [AHeap.set_none] at hk0q0; simp only [hk0q0])
  skip
  simp (decide := true) only [aOps_nil, ev, absV, absS, putD, Slots.put, Slots.get, Slots.keep, if_true, if_false, true_and, ↓ap_assign, pop_assign, AVal.cells, decA]
  repeat (with_reducible refine And.intro ?_ ?_; · first | trivial | omega | (intro hg; simp only [Bool.and_eq_true, Bool.or_eq_true, Bool.not_eq_true', Bool.and_eq_false_iff, Bool.or_eq_false_iff, Bool.not_eq_false', decide_eq_true_eq, decide_eq_false_iff_not, eqNil] at hg; omega) | (simp only [List.length_append, List.length_map, List.length_range, List.length_replicate, List.length_take, List.length_drop, List.length_cons, List.length_nil, List.length_set, List.length_reverse]; omega))
  apply hK; clear hK K
  refine awp_seq ?_
  -- region 1  decimals.go:122
  refine awp_rseq [1, 7] (by rfl) fun K hK => ?_
  simp (decide := true) only [ev, putD, Slots.put, Slots.get, if_true, if_false, true_and, ↓ap_loadL, apL_mk, pLoad_agg ag27 sz27, rd_any, cellsAt, List.getD_cons_zero, List.getD_cons_succ, Nat.zero_add, Nat.reduceAdd, lv_bool, lv_int, lv_str, allLive, Bool.and_true]
  repeat (with_reducible refine And.intro ?_ ?_; · first | trivial | omega | (intro hg; simp only [Bool.and_eq_true, Bool.or_eq_true, Bool.not_eq_true', Bool.and_eq_false_iff, Bool.or_eq_false_iff, Bool.not_eq_false', decide_eq_true_eq, decide_eq_false_iff_not, eqNil] at hg; omega) | (simp only [List.length_append, List.length_map, List.length_range, List.length_replicate, List.length_take, List.length_drop, List.length_cons, List.length_nil, List.length_set, List.length_reverse]; omega))
  refine aOps_callV (V := .int .i64 (checkE d)) (by rfl) (by rfl) (c_Check w₀ _ d hl) ?_
  simp (decide := true) only [aOps_nil, ev, absV, absS, putD, Slots.put, Slots.get, Slots.keep, if_true, if_false, true_and, ↓ap_binOp, pop_binOp, isNilC_int, cond_false, pBinX_int, pI_neq]
  repeat (with_reducible refine And.intro ?_ ?_; · first | trivial | omega | (intro hg; simp only [Bool.and_eq_true, Bool.or_eq_true, Bool.not_eq_true', Bool.and_eq_false_iff, Bool.or_eq_false_iff, Bool.not_eq_false', decide_eq_true_eq, decide_eq_false_iff_not, eqNil] at hg; omega) | (simp only [List.length_append, List.length_map, List.length_range, List.length_replicate, List.length_take, List.length_drop, List.length_cons, List.length_nil, List.length_set, List.length_reverse]; omega))
  apply hK; clear hK K
  refine awp_cond (b := _) rfl (fun hb1 => ?_) (fun hb1 => ?_)
  · try simp only [decide_eq_false_iff_not, Bool.not_eq_true'] at hb1
    -- region 2  decimals.go:123
    refine awp_rseq [2] (by rfl) fun K hK => ?_
    simp (decide := true) only [aOps_nil, ev, absV, absS, putD, Slots.put, Slots.keep, if_true, if_false, true_and, ↓ap_assign, pop_assign]
    repeat (with_reducible refine And.intro ?_ ?_; · first | trivial | omega | (intro hg; simp only [Bool.and_eq_true, Bool.or_eq_true, Bool.not_eq_true', Bool.and_eq_false_iff, Bool.or_eq_false_iff, Bool.not_eq_false', decide_eq_true_eq, decide_eq_false_iff_not, eqNil] at hg; omega) | (simp only [List.length_append, List.length_map, List.length_range, List.length_replicate, List.length_take, List.length_drop, List.length_cons, List.length_nil, List.length_set, List.length_reverse]; omega))
    apply hK; clear hK K
    refine awp_ret ?_
    try simp only [thenA_ret]
    refine retA_ret h (by repeat (first | exact Sub.refl _ | assumption | refine Sub.trans_set ?_ (by assumption))) (resPre_tmp (resPre_nil)) ?_
    simp (decide := true) only [Slots.get, if_true, and_true, resOf_one]
    rw [textE, if_pos hb1]
  · try simp only [decide_eq_true_eq, Bool.not_eq_false'] at hb1
    have hv : checkE d = 0 := by simpa using hb1
    obtain ⟨sd, dd, nd, _⟩ := Small_of_check hv
    have ha1 := sd.l
    have ha2 := sd.s0
    have ha3 := sd.s1
    obtain ⟨s, hs⟩ : ∃ s, s = padL d.dig (d.scale + 1) := ⟨_, rfl⟩
    have hsl : (s.length : Int) ≤ 200 ∧ d.scale < s.length := by rw [hs, padL]; simp; omega
    refine awp_skip ?_
    change Awp _ _ _ _ _ _ _
    -- region 3  decimals.go:125
    refine awp_rseq [1, 3] (by rfl) fun K hK => ?_
    simp (decide := true) only [ev, absV, absS, putD, Slots.put, Slots.get, if_true, if_false, true_and, ↓ap_fieldAddr, pop_fieldAddr, fa27_1, ↓ap_loadL, apL_mk, pLoad_one ag9, fa27_2, pLoad_one ag3, ↓ap_binOp, pop_binOp, isNilC_int, cond_false, pBinX_int, pI_add, rd_any, List.getD_cons_zero, List.getD_cons_succ, Nat.zero_add, lv_int, lv_str]
    try simp (disch := omega) only [wrap_i64]
    repeat (with_reducible refine And.intro ?_ ?_; · first | trivial | omega | (intro hg; simp only [Bool.and_eq_true, Bool.or_eq_true, Bool.not_eq_true', Bool.and_eq_false_iff, Bool.or_eq_false_iff, Bool.not_eq_false', decide_eq_true_eq, decide_eq_false_iff_not, eqNil] at hg; omega) | (simp only [List.length_append, List.length_map, List.length_range, List.length_replicate, List.length_take, List.length_drop, List.length_cons, List.length_nil, List.length_set, List.length_reverse]; omega))
    refine aOps_callV (V := .str s) (by rfl) (by rfl) ((c_padded w₀ _ d.dig (d.scale + 1) (by omega) (by omega) (by omega)).val (by rw [hs])) ?_
    simp (decide := true) only [aOps_nil, ev, putD, Slots.put, Slots.get, Slots.keep, if_true, if_false, true_and, ↓ap_assign, pop_assign]
    repeat (with_reducible refine And.intro ?_ ?_; · first | trivial | omega | (intro hg; simp only [Bool.and_eq_true, Bool.or_eq_true, Bool.not_eq_true', Bool.and_eq_false_iff, Bool.or_eq_false_iff, Bool.not_eq_false', decide_eq_true_eq, decide_eq_false_iff_not, eqNil] at hg; omega) | (simp only [List.length_append, List.length_map, List.length_range, List.length_replicate, List.length_take, List.length_drop, List.length_cons, List.length_nil, List.length_set, List.length_reverse]; omega))
    apply hK; clear hK K
    refine awp_seq ?_
    -- region 4  decimals.go:126
    refine awp_rseq [1, 3, 4] (by rfl) fun K hK => ?_
    simp (decide := true) only [aOps_nil, ev, putD, Slots.put, Slots.get, Slots.keep, if_true, if_false, true_and, ↓ap_move, pop_move, ↓ap_len, pop_len, pLen_str Tryz.underlying9, ↓ap_fieldAddr, pop_fieldAddr, fa27_2, ↓ap_loadL, apL_mk, pLoad_one ag3, ↓ap_binOp, pop_binOp, isNilC_tmp, cond_false, pBinX_int, pI_sub, ↓ap_assign, pop_assign, rd_any, List.getD_cons_zero, List.getD_cons_succ, Nat.zero_add, lv_int]
    try simp (disch := omega) only [wrap_i64]
    repeat (with_reducible refine And.intro ?_ ?_; · first | trivial | omega | (intro hg; simp only [Bool.and_eq_true, Bool.or_eq_true, Bool.not_eq_true', Bool.and_eq_false_iff, Bool.or_eq_false_iff, Bool.not_eq_false', decide_eq_true_eq, decide_eq_false_iff_not, eqNil] at hg; omega) | (simp only [List.length_append, List.length_map, List.length_range, List.length_replicate, List.length_take, List.length_drop, List.length_cons, List.length_nil, List.length_set, List.length_reverse]; omega))
    apply hK; clear hK K
    -- region 5  decimals.go:126
    refine awp_rseq [1, 3, 4, 21] (by rfl) fun K hK => ?_
    simp (decide := true) only [aOps_nil, ev, absV, absS, putD, Slots.put, Slots.get, Slots.keep, if_true, if_false, true_and, ↓ap_fieldAddr, pop_fieldAddr, fa27_2, ↓ap_loadL, apL_mk, pLoad_one ag3, ↓ap_binOp, pop_binOp, isNilC_int, cond_false, pBinX_int, pI_gtr, rd_any, List.getD_cons_zero, List.getD_cons_succ, Nat.zero_add, lv_int]
    repeat (with_reducible refine And.intro ?_ ?_; · first | trivial | omega | (intro hg; simp only [Bool.and_eq_true, Bool.or_eq_true, Bool.not_eq_true', Bool.and_eq_false_iff, Bool.or_eq_false_iff, Bool.not_eq_false', decide_eq_true_eq, decide_eq_false_iff_not, eqNil] at hg; omega) | (simp only [List.length_append, List.length_map, List.length_range, List.length_replicate, List.length_take, List.length_drop, List.length_cons, List.length_nil, List.length_set, List.length_reverse]; omega))
    apply hK; clear hK K
    refine awp_joinT [1, 3] (fun t : List UInt8 => [(1, .ptr (.own k0q0) 0), (3, .str t)]) (fun t : List UInt8 => h.set k0q0 ⟨[.bool d.neg, .str d.dig, .int .i64 d.scale], 0⟩) (fun t : List UInt8 => t = (if 0 < d.scale then s.take ((s.length : Int) - d.scale).toNat ++ [46] ++ s.drop ((s.length : Int) - d.scale).toNat else s)) ?_ ?_
    · refine awp_cond (b := _) rfl (fun hb2 => ?_) (fun hb2 => ?_)
      · try simp only [decide_eq_true_eq] at hb2
        -- region 6  decimals.go:127
        refine awp_draw_all mixed (by kernel_rfl) (by rfl) (by rfl) ?_
        simp (decide := true) only [aOps_nil, ev, absV, absS, putD, Slots.put, Slots.get, if_true, if_false, true_and, ↓ap_move, pop_move, ↓ap_slice, pop_slice, evO, pSliceS_0i Tryz.underlying9, pSliceS_i0 Tryz.underlying9, pSliceS, bndA_none, bndA_int, ↓ap_binOp, pop_binOp, isNilC_str, cond_false, pBinX_str, pS_add, isNilC_tmp, ↓ap_assign, pop_assign]
        repeat (with_reducible refine And.intro ?_ ?_; · first | trivial | omega | (intro hg; simp only [Bool.and_eq_true, Bool.or_eq_true, Bool.not_eq_true', Bool.and_eq_false_iff, Bool.or_eq_false_iff, Bool.not_eq_false', decide_eq_true_eq, decide_eq_false_iff_not, eqNil] at hg; omega) | (simp only [List.length_append, List.length_take, List.length_drop, List.length_cons, List.length_nil]; omega))
        try simp only [thenA_normal]
        first
        | (refine ⟨_, rfl, Sub.refl _, ?_⟩
           rw [if_pos hb2]
           simp only [Int.toNat_natCast, Nat.sub_zero, List.drop_zero]
           rw [List.take_of_length_le (l := List.drop _ s) (by rw [List.length_drop]; omega)])
        | (refine ⟨_, rfl, Sub.refl _, ?_⟩
           rw [if_neg hb2])
      · try simp only [decide_eq_false_iff_not] at hb2
        refine awp_skip ?_
        try simp only [thenA_normal]
        first
        | (refine ⟨_, rfl, Sub.refl _, ?_⟩
           rw [if_pos hb2]
           simp only [Int.toNat_natCast, Nat.sub_zero, List.drop_zero]
           rw [List.take_of_length_le (l := List.drop _ s) (by rw [List.length_drop]; omega)])
        | (refine ⟨_, rfl, Sub.refl _, ?_⟩
           rw [if_neg hb2])
    · rintro t ht
      have htl : t.length ≤ 500 := by
        rw [ht]
        split
        · simp only [List.length_append, List.length_take, List.length_drop, List.length_cons, List.length_nil]; omega
        · omega
      refine awp_seq ?_
      -- region 7  decimals.go:129
      refine awp_rseq [3, 31] (by rfl) fun K hK => ?_
      simp (decide := true) only [aOps_nil, ev, putD, Slots.put, Slots.get, Slots.keep, if_true, if_false, true_and, ↓ap_fieldAddr, pop_fieldAddr, fa27_0, ↓ap_loadL, apL_mk, pLoad_one ag4, rd_any, List.getD_cons_zero, Nat.zero_add, lv_bool]
      repeat (with_reducible refine And.intro ?_ ?_; · first | trivial | omega | (intro hg; simp only [Bool.and_eq_true, Bool.or_eq_true, Bool.not_eq_true', Bool.and_eq_false_iff, Bool.or_eq_false_iff, Bool.not_eq_false', decide_eq_true_eq, decide_eq_false_iff_not, eqNil] at hg; omega) | (simp only [List.length_append, List.length_map, List.length_range, List.length_replicate, List.length_take, List.length_drop, List.length_cons, List.length_nil, List.length_set, List.length_reverse]; omega))
      apply hK; clear hK K
      refine awp_cond (b := _) rfl (fun hb3 => ?_) (fun hb3 => ?_)
      · try simp only [decide_eq_true_eq, decide_eq_false_iff_not, Bool.not_eq_true', Bool.not_eq_false', Bool.and_eq_true, Bool.and_eq_false_iff, Bool.or_eq_true, Bool.or_eq_false_iff, Bool.true_eq, Bool.false_eq, reduceCtorEq] at hb3
        -- region 8  decimals.go:130
        refine awp_r [3] (by rfl) ?_
        simp (decide := true) only [aOps_nil, ev, absV, absS, putD, Slots.put, Slots.get, Slots.keep, if_true, if_false, true_and, ↓ap_move, pop_move, ↓ap_binOp, pop_binOp, isNilC_tmp, cond_false, pBinX_str, pS_add, ↓ap_assign, pop_assign]
        repeat (with_reducible refine And.intro ?_ ?_; · first | trivial | omega | (intro hg; simp only [Bool.and_eq_true, Bool.or_eq_true, Bool.not_eq_true', Bool.and_eq_false_iff, Bool.or_eq_false_iff, Bool.not_eq_false', decide_eq_true_eq, decide_eq_false_iff_not, eqNil] at hg; omega) | (simp only [List.length_cons, List.length_nil]; omega))
        change Awp _ _ _ _ _ _ _
        -- region 9  decimals.go:132
        refine awp_rseq [2] (by rfl) fun K hK => ?_
        simp (decide := true) only [aOps_nil, ev, putD, Slots.put, Slots.get, Slots.keep, if_true, if_false, true_and, ↓ap_move, pop_move, ↓ap_assign, pop_assign]
        repeat (with_reducible refine And.intro ?_ ?_; · first | trivial | omega | (intro hg; simp only [Bool.and_eq_true, Bool.or_eq_true, Bool.not_eq_true', Bool.and_eq_false_iff, Bool.or_eq_false_iff, Bool.not_eq_false', decide_eq_true_eq, decide_eq_false_iff_not, eqNil] at hg; omega) | (simp only [List.length_append, List.length_map, List.length_range, List.length_replicate, List.length_take, List.length_drop, List.length_cons, List.length_nil, List.length_set, List.length_reverse]; omega))
        apply hK; clear hK K
        refine awp_ret ?_
        try simp only [thenA_ret, inBlockA_ret]
        refine retA_ret h (by repeat (first | exact Sub.refl _ | assumption | refine Sub.trans_set ?_ (by assumption))) (resPre_tmp (resPre_nil)) ?_
        simp (decide := true) only [Slots.get, if_true, and_true, resOf_one]
        rw [textE, if_neg (fun e => e hv)]
        simp only [← hs, ← ht]
        rw [if_pos hb3]
      · try simp only [decide_eq_true_eq, decide_eq_false_iff_not, Bool.not_eq_true', Bool.not_eq_false', Bool.and_eq_true, Bool.and_eq_false_iff, Bool.or_eq_true, Bool.or_eq_false_iff, Bool.true_eq, Bool.false_eq, reduceCtorEq] at hb3
        refine awp_skip ?_
        change Awp _ _ _ _ _ _ _
        -- region 9  decimals.go:132
        refine awp_rseq [2] (by rfl) fun K hK => ?_
        simp (decide := true) only [aOps_nil, ev, putD, Slots.put, Slots.get, Slots.keep, if_true, if_false, true_and, ↓ap_move, pop_move, ↓ap_assign, pop_assign]
        repeat (with_reducible refine And.intro ?_ ?_; · first | trivial | omega | (intro hg; simp only [Bool.and_eq_true, Bool.or_eq_true, Bool.not_eq_true', Bool.and_eq_false_iff, Bool.or_eq_false_iff, Bool.not_eq_false', decide_eq_true_eq, decide_eq_false_iff_not, eqNil] at hg; omega) | (simp only [List.length_append, List.length_map, List.length_range, List.length_replicate, List.length_take, List.length_drop, List.length_cons, List.length_nil, List.length_set, List.length_reverse]; omega))
        apply hK; clear hK K
        refine awp_ret ?_
        try simp only [thenA_ret, inBlockA_ret]
        refine retA_ret h (by repeat (first | exact Sub.refl _ | assumption | refine Sub.trans_set ?_ (by assumption))) (resPre_tmp (resPre_nil)) ?_
        simp (decide := true) only [Slots.get, if_true, and_true, resOf_one]
        rw [textE, if_neg (fun e => e hv)]
        simp only [← hs, ← ht]
        rw [if_neg (by rw [hb3]; decide)]

/-! ### ToInt -/
/-- The integer that digits with a sign spell, if an int64 holds it. -/
def intV (neg : Bool) (n : Nat) : Int := if neg = true then -(n : Int) else n
def intOk (neg : Bool) (n : Nat) : Bool := decide (-9223372036854775808 ≤ intV neg n) && decide (intV neg n ≤ 9223372036854775807)
theorem parseUint_dig : ∀ (l : List UInt8) (acc : Nat), l.all dg = true → acc ≤ 18446744073709551615 →
    Lib.parseUintM 18446744073709551615 acc l = if acc * 10 ^ l.length + natOf l ≤ 18446744073709551615 then .ok (acc * 10 ^ l.length + natOf l) else .range
  | [], acc, _, ha => by
    simp only [Lib.parseUintM, List.length_nil, Nat.pow_zero, Nat.mul_one, natOf_nil, Nat.add_zero]
    rw [if_pos ha]
  | c :: r, acc, hl, ha => by
    rw [List.all_cons, Bool.and_eq_true] at hl
    have hc := (dg_iff c).1 hl.1
    have hp : 0 < 10 ^ r.length := Nat.pow_pos (by omega)
    have hv : natOf (c :: r) = (c.toNat - 48) * 10 ^ r.length + natOf r := natOf_cons c r
    have ht : acc * 10 ^ (c :: r).length + natOf (c :: r) = (acc * 10 + (c.toNat - 48)) * 10 ^ r.length + natOf r := by
      rw [hv, List.length_cons, Nat.pow_succ, Nat.add_mul, Nat.mul_comm (10 ^ r.length) 10, Nat.mul_assoc]
      omega
    rw [Lib.parseUintM, if_pos hc, ht]
    have hbig : ∀ m, 18446744073709551615 < m → ¬ m * 10 ^ r.length + natOf r ≤ 18446744073709551615 := fun m hm hle => by
      have := Nat.le_mul_of_pos_right m hp
      omega
    split
    · rw [if_neg (hbig _ (by omega))]
    · split
      · rw [if_neg (hbig _ (by omega))]
      · exact parseUint_dig r _ hl.2 (by omega)
theorem parseInt_dig (neg : Bool) {l : List UInt8} (hl : l.all dg = true) (hne : l ≠ []) :
    Lib.parseIntB 64 (if neg = true then 45 :: l else l) = if intOk neg (natOf l) = true then .ok (intV neg (natOf l)) else .range := by
  have hu : Lib.parseUintB 64 l = if natOf l ≤ 18446744073709551615 then .ok (natOf l) else .range := by
    unfold Lib.parseUintB
    rw [if_neg hne]
    have := parseUint_dig l 0 hl (by omega)
    simpa using this
  cases neg with
  | true =>
    simp only [if_true]
    unfold Lib.parseIntB
    simp only [show (45 : UInt8).toNat = 45 from rfl, or_true, if_true, hu]
    unfold intOk intV
    by_cases h1 : natOf l ≤ 18446744073709551615
    · rw [if_pos h1]
      simp only [not_true_eq_false, false_and, if_false, true_and, if_true]
      by_cases h2 : 9223372036854775808 < natOf l
      · rw [if_pos (show 2 ^ (64 - 1) < natOf l from h2), if_neg (by simp; omega)]
      · rw [if_neg (show ¬2 ^ (64 - 1) < natOf l from h2), if_pos (by simp; omega)]
    · rw [if_neg h1, if_neg (by simp; omega)]
  | false =>
    simp only [Bool.false_eq_true, if_false]
    cases l with
    | nil => exact absurd rfl hne
    | cons c r =>
      have hc := (dg_iff c).1 (by rw [List.all_cons, Bool.and_eq_true] at hl; exact hl.1)
      unfold Lib.parseIntB
      have h43 : ¬c.toNat = 43 := by omega
      have h45 : ¬c.toNat = 45 := by omega
      simp only [h43, h45, or_self, if_false, hu]
      unfold intOk intV
      by_cases h1 : natOf (c :: r) ≤ 18446744073709551615
      · rw [if_pos h1]
        simp only [not_false_eq_true, true_and, false_and, if_false, Bool.false_eq_true]
        by_cases h2 : 9223372036854775808 ≤ natOf (c :: r)
        · rw [if_pos (show 2 ^ (64 - 1) ≤ natOf (c :: r) from h2), if_neg (by simp; omega)]
        · rw [if_neg (show ¬2 ^ (64 - 1) ≤ natOf (c :: r) from h2), if_pos (by simp; omega)]
      · rw [if_neg h1, if_neg (by simp; omega)]
/-- What strconv's errors hold. -/
structure Errs (w : World) : Prop where
  rng : ∃ ev, w.cell? ⟨3, 0, none⟩ = some ev ∧ (ev = .nilIface ∨ ∃ te pe, ev = .iface te pe)
def errT : TypeId := 130
def errA (ok : Bool) : AVal := if ok = true then .nilIface else .iface errT .dead
theorem pIfNil_errA (ok : Bool) : pIfNil Tryz.prog .neq 82 (errA ok) = ⟨True, .bool (!ok)⟩ := by
  cases ok with
  | true => exact pIfNil_ne Tryz.underlying82
  | false => exact pIfNil_nei Tryz.underlying82 _ _
theorem c_ParseInt (w₀ : World) (he : Errs w₀) (h : AHeap) (neg : Bool) (l : List UInt8) (hl : l.all dg = true) (hne : l ≠ []) (hlen : l.length ≤ 1000000) :
    ACall Tryz.prog w₀ 59 [.str (if neg = true then 45 :: l else l), .int .i64 10, .int .i64 64] h (fun v h' => (∃ n, v = .tuple [.int .i64 n, errA (intOk neg (natOf l))] ∧ (intOk neg (natOf l) = true → n = intV neg (natOf l))) ∧ h' = h) := by
  intro φ vals w hr hvs
  have hvals : vals = [.string ⟨⟨if neg = true then 45 :: l else l⟩⟩, .int .i64 10, .int .i64 64] := by
    simp only [VRs, VR] at hvs
    obtain ⟨_, _, rfl, rfl, _, _, rfl, rfl, _, _, rfl, rfl, rfl⟩ := hvs
    rfl
  subst hvals
  have hp := parseInt_dig neg hl hne
  have hsz : (⟨⟨if neg = true then 45 :: l else l⟩⟩ : ByteArray).size ≤ 2000000 := by
    show (if neg = true then 45 :: l else l).length ≤ _
    split
    · rw [List.length_cons]; omega
    · omega
  refine .inl ⟨_, Tryz.func59, rfl, rfl, ?_⟩
  cases ho : intOk neg (natOf l) with
  | true =>
    have hp := hp.trans (show _ = Lib.NumEnd.ok (intV neg (natOf l)) by rw [ho]; rfl)
    refine (Tryz.strconv_ParseInt_10_at64_ok ⟨⟨if neg = true then 45 :: l else l⟩⟩ (by omega) (intV neg (natOf l)) hp w).mono fun e w' ⟨e1, e2⟩ => ⟨_, e1, φ, .tuple [.int .i64 (intV neg (natOf l)), .nilIface], h, φ.le_refl, ?_, ?_, ⟨_, rfl, fun _ => rfl⟩, rfl⟩
    · rcases e2 with e2 | ⟨t, e2⟩
      · rw [e2]; exact hr
      · rw [e2]; exact hr.later (Go.Lib.bytesWorld_below w _ t)
    · simp only [VR]
      refine ⟨_, rfl, ?_⟩
      simp only [VRs]
      exact ⟨_, _, rfl, by simp only [VR], _, _, rfl, by simp only [VR], rfl⟩
  | false =>
    have hp := hp.trans (show _ = Lib.NumEnd.range by rw [ho]; rfl)
    obtain ⟨ev, h1, h2⟩ := he.rng
    have hlt : 3 < w₀.heap.size := cell_lt h1
    have h1' : w.cell? ⟨3, 0, none⟩ = some ev := by rw [hr.below.cell (p := ⟨3, 0, none⟩) hlt]; exact h1
    refine (Tryz.strconv_ParseInt_10_at64_range ⟨⟨if neg = true then 45 :: l else l⟩⟩ (by omega) hp ev w h1' h2).mono fun e w' ⟨N, e1, e2, e3, e4⟩ => ⟨_, e1, φ, .tuple [.int .i64 (Lib.intSat 64 (if neg = true then 45 :: l else l)), .iface errT .dead], h, φ.le_refl, hr.later e4, ?_, ⟨_, rfl, fun e => (by cases e)⟩, rfl⟩
    simp only [VR]
    refine ⟨_, rfl, ?_⟩
    simp only [VRs]
    exact ⟨_, _, rfl, by simp only [VR], _, _, rfl, by simp only [VR]; exact ⟨_, rfl, trivial⟩, rfl⟩
def toIntE (d : D) : Int × Int :=
  if checkE d ≠ 0 then (0, 1) else if 0 < d.scale then (0, 12)
  else if intOk d.neg (natOf d.dig) = true then (intV d.neg (natOf d.dig), 0) else (0, 13)
theorem c_ToInt (w₀ : World) (he : Errs w₀) (h : AHeap) (d : D) (hl : d.dig.length ≤ 9223372036854775807) :
    ACall Tryz.prog w₀ 37 [decA d] h (fun v h' => v = .tuple [.int .i64 (toIntE d).1, .int .i64 (toIntE d).2] ∧ h' = h) := by
  refine acall_intro (n := 29) (rs := [.tmp 2, .tmp 3]) Tryz.func37 rfl rfl rfl rfl (Nat.le_of_ble_eq_true rfl) ?_
  simp only [initSlots]
  -- region 0  decimals.go:81
  refine awp_rseq [1] (by rfl) fun K hK => ?_
  refine aOps_box (by rfl) (by rfl) (by rfl) fun k0q0 hk0q0 => ?_
  try have hf_0q0 : h k0q0 = none := by first | assumption | (simp only [AHeap.set_none] at hk0q0; simp only [hk0q0])
  skip
  simp (decide := true) only [aOps_nil, ev, absV, absS, putD, Slots.put, Slots.get, Slots.keep, if_true, if_false, true_and, ↓ap_assign, pop_assign, AVal.cells, decA]
  repeat (with_reducible refine And.intro ?_ ?_; · first | trivial | omega | (intro hg; simp only [Bool.and_eq_true, Bool.or_eq_true, Bool.not_eq_true', Bool.and_eq_false_iff, Bool.or_eq_false_iff, Bool.not_eq_false', decide_eq_true_eq, decide_eq_false_iff_not, eqNil] at hg; omega) | (simp only [List.length_append, List.length_map, List.length_range, List.length_replicate, List.length_take, List.length_drop, List.length_cons, List.length_nil, List.length_set, List.length_reverse]; omega))
  apply hK; clear hK K
  refine awp_seq ?_
  refine awp_block ?_
  -- region 1  decimals.go:83
  refine awp_rseq [1, 7] (by rfl) fun K hK => ?_
  simp (decide := true) only [ev, putD, Slots.put, Slots.get, if_true, if_false, true_and, ↓ap_loadL, apL_mk, pLoad_agg ag27 sz27, rd_any, cellsAt, List.getD_cons_zero, List.getD_cons_succ, Nat.zero_add, Nat.reduceAdd, lv_bool, lv_int, lv_str, allLive, Bool.and_true]
  repeat (with_reducible refine And.intro ?_ ?_; · first | trivial | omega | (intro hg; simp only [Bool.and_eq_true, Bool.or_eq_true, Bool.not_eq_true', Bool.and_eq_false_iff, Bool.or_eq_false_iff, Bool.not_eq_false', decide_eq_true_eq, decide_eq_false_iff_not, eqNil] at hg; omega) | (simp only [List.length_append, List.length_map, List.length_range, List.length_replicate, List.length_take, List.length_drop, List.length_cons, List.length_nil, List.length_set, List.length_reverse]; omega))
  refine aOps_callV (V := .int .i64 (checkE d)) (by rfl) (by rfl) (c_Check w₀ _ d hl) ?_
  simp (decide := true) only [aOps_nil, ev, absV, absS, putD, Slots.put, Slots.get, Slots.keep, if_true, if_false, true_and, ↓ap_binOp, pop_binOp, isNilC_int, cond_false, pBinX_int, pI_neq, ↓ap_assign, pop_assign]
  repeat (with_reducible refine And.intro ?_ ?_; · first | trivial | omega | (intro hg; simp only [Bool.and_eq_true, Bool.or_eq_true, Bool.not_eq_true', Bool.and_eq_false_iff, Bool.or_eq_false_iff, Bool.not_eq_false', decide_eq_true_eq, decide_eq_false_iff_not, eqNil] at hg; omega) | (simp only [List.length_append, List.length_map, List.length_range, List.length_replicate, List.length_take, List.length_drop, List.length_cons, List.length_nil, List.length_set, List.length_reverse]; omega))
  apply hK; clear hK K
  refine awp_cond (b := _) rfl (fun hb1 => ?_) (fun hb1 => ?_)
  · try simp only [decide_eq_false_iff_not, Bool.not_eq_true'] at hb1
    -- region 2  decimals.go:84
    refine awp_rseq [2, 3] (by rfl) fun K hK => ?_
    simp (decide := true) only [aOps_nil, ev, absV, absS, putD, Slots.put, Slots.keep, if_true, if_false, true_and, ↓ap_assign, pop_assign]
    repeat (with_reducible refine And.intro ?_ ?_; · first | trivial | omega | (intro hg; simp only [Bool.and_eq_true, Bool.or_eq_true, Bool.not_eq_true', Bool.and_eq_false_iff, Bool.or_eq_false_iff, Bool.not_eq_false', decide_eq_true_eq, decide_eq_false_iff_not, eqNil] at hg; omega) | (simp only [List.length_append, List.length_map, List.length_range, List.length_replicate, List.length_take, List.length_drop, List.length_cons, List.length_nil, List.length_set, List.length_reverse]; omega))
    apply hK; clear hK K
    refine awp_ret ?_
    try simp only [thenA_ret, inBlockA_ret]
    refine retA_ret h (by repeat (first | exact Sub.refl _ | assumption | refine Sub.trans_set ?_ (by assumption))) (resPre_tmp (resPre_tmp (resPre_nil))) ?_
    simp (decide := true) only [Slots.get, if_true, if_false, and_true, resOf_two]
    rw [toIntE, if_pos hb1]
  · try simp only [decide_eq_true_eq, Bool.not_eq_false'] at hb1
    have hv : checkE d = 0 := by simpa using hb1
    obtain ⟨sd, dd, nd, _⟩ := Small_of_check hv
    have ha1 := sd.l
    -- region 3  decimals.go:85
    refine awp_rseq [1, 11] (by rfl) fun K hK => ?_
    simp (decide := true) only [aOps_nil, ev, absV, absS, putD, Slots.put, Slots.get, Slots.keep, if_true, if_false, true_and, ↓ap_fieldAddr, pop_fieldAddr, fa27_2, ↓ap_loadL, apL_mk, pLoad_one ag3, ↓ap_binOp, pop_binOp, isNilC_int, cond_false, pBinX_int, pI_gtr, ↓ap_assign, pop_assign, rd_any, List.getD_cons_zero, List.getD_cons_succ, Nat.zero_add, lv_int]
    repeat (with_reducible refine And.intro ?_ ?_; · first | trivial | omega | (intro hg; simp only [Bool.and_eq_true, Bool.or_eq_true, Bool.not_eq_true', Bool.and_eq_false_iff, Bool.or_eq_false_iff, Bool.not_eq_false', decide_eq_true_eq, decide_eq_false_iff_not, eqNil] at hg; omega) | (simp only [List.length_append, List.length_map, List.length_range, List.length_replicate, List.length_take, List.length_drop, List.length_cons, List.length_nil, List.length_set, List.length_reverse]; omega))
    apply hK; clear hK K
    refine awp_cond (b := _) rfl (fun hb2 => ?_) (fun hb2 => ?_)
    · try simp only [decide_eq_true_eq] at hb2
      -- region 4  decimals.go:86
      refine awp_rseq [2, 3] (by rfl) fun K hK => ?_
      simp (decide := true) only [aOps_nil, ev, absV, absS, putD, Slots.put, Slots.keep, if_true, if_false, true_and, ↓ap_assign, pop_assign]
      repeat (with_reducible refine And.intro ?_ ?_; · first | trivial | omega | (intro hg; simp only [Bool.and_eq_true, Bool.or_eq_true, Bool.not_eq_true', Bool.and_eq_false_iff, Bool.or_eq_false_iff, Bool.not_eq_false', decide_eq_true_eq, decide_eq_false_iff_not, eqNil] at hg; omega) | (simp only [List.length_append, List.length_map, List.length_range, List.length_replicate, List.length_take, List.length_drop, List.length_cons, List.length_nil, List.length_set, List.length_reverse]; omega))
      apply hK; clear hK K
      refine awp_ret ?_
      try simp only [thenA_ret, inBlockA_ret]
      refine retA_ret h (by repeat (first | exact Sub.refl _ | assumption | refine Sub.trans_set ?_ (by assumption))) (resPre_tmp (resPre_tmp (resPre_nil))) ?_
      simp (decide := true) only [Slots.get, if_true, if_false, and_true, resOf_two]
      rw [toIntE, if_neg (fun e => e hv), if_pos hb2]
    · try simp only [decide_eq_false_iff_not] at hb2
      refine awp_skip ?_
      change Awp _ _ _ _ _ _ _
      -- region 5  decimals.go:88
      refine awp_rseq [1, 4] (by rfl) fun K hK => ?_
      simp (decide := true) only [aOps_nil, ev, putD, Slots.put, Slots.get, Slots.keep, if_true, if_false, true_and, ↓ap_fieldAddr, pop_fieldAddr, fa27_1, ↓ap_loadL, apL_mk, pLoad_one ag9, ↓ap_assign, pop_assign, rd_any, List.getD_cons_zero, List.getD_cons_succ, Nat.zero_add, lv_str]
      repeat (with_reducible refine And.intro ?_ ?_; · first | trivial | omega | (intro hg; simp only [Bool.and_eq_true, Bool.or_eq_true, Bool.not_eq_true', Bool.and_eq_false_iff, Bool.or_eq_false_iff, Bool.not_eq_false', decide_eq_true_eq, decide_eq_false_iff_not, eqNil] at hg; omega) | (simp only [List.length_append, List.length_map, List.length_range, List.length_replicate, List.length_take, List.length_drop, List.length_cons, List.length_nil, List.length_set, List.length_reverse]; omega))
      apply hK; clear hK K
      refine awp_seq ?_
      -- region 6  decimals.go:89
      refine awp_rseq [4, 18] (by rfl) fun K hK => ?_
      simp (decide := true) only [aOps_nil, ev, putD, Slots.put, Slots.get, Slots.keep, if_true, if_false, true_and, ↓ap_fieldAddr, pop_fieldAddr, fa27_0, ↓ap_loadL, apL_mk, pLoad_one ag4, rd_any, List.getD_cons_zero, Nat.zero_add, lv_bool]
      repeat (with_reducible refine And.intro ?_ ?_; · first | trivial | omega | (intro hg; simp only [Bool.and_eq_true, Bool.or_eq_true, Bool.not_eq_true', Bool.and_eq_false_iff, Bool.or_eq_false_iff, Bool.not_eq_false', decide_eq_true_eq, decide_eq_false_iff_not, eqNil] at hg; omega) | (simp only [List.length_append, List.length_map, List.length_range, List.length_replicate, List.length_take, List.length_drop, List.length_cons, List.length_nil, List.length_set, List.length_reverse]; omega))
      apply hK; clear hK K
      refine awp_joinT [4] (fun s : List UInt8 => [(4, .str s)]) (fun s : List UInt8 => h.set k0q0 ⟨[.bool d.neg, .str d.dig, .int .i64 d.scale], 0⟩) (fun s : List UInt8 => s = (if d.neg = true then 45 :: d.dig else d.dig)) ?_ ?_
      · refine awp_cond (b := _) rfl (fun hb3 => ?_) (fun hb3 => ?_)
        · try simp only [decide_eq_true_eq, decide_eq_false_iff_not, Bool.not_eq_true', Bool.not_eq_false', Bool.and_eq_true, Bool.and_eq_false_iff, Bool.or_eq_true, Bool.or_eq_false_iff, Bool.true_eq, Bool.false_eq, reduceCtorEq] at hb3
          -- region 7  decimals.go:90
          refine awp_r [4] (by rfl) ?_
          simp (decide := true) only [aOps_nil, ev, absV, absS, putD, Slots.put, Slots.get, Slots.keep, if_true, if_false, true_and, ↓ap_move, pop_move, ↓ap_binOp, pop_binOp, isNilC_tmp, cond_false, pBinX_str, pS_add, ↓ap_assign, pop_assign]
          repeat (with_reducible refine And.intro ?_ ?_; · first | trivial | omega | (intro hg; simp only [Bool.and_eq_true, Bool.or_eq_true, Bool.not_eq_true', Bool.and_eq_false_iff, Bool.or_eq_false_iff, Bool.not_eq_false', decide_eq_true_eq, decide_eq_false_iff_not, eqNil] at hg; omega) | (simp only [List.length_cons, List.length_nil]; omega))
          try simp only [thenA_normal]
          first
          | exact ⟨_, rfl, Sub.refl _, by rw [if_pos hb3]; rfl⟩
          | exact ⟨_, rfl, Sub.refl _, by rw [if_neg (by rw [hb3]; decide)]⟩
        · try simp only [decide_eq_true_eq, decide_eq_false_iff_not, Bool.not_eq_true', Bool.not_eq_false', Bool.and_eq_true, Bool.and_eq_false_iff, Bool.or_eq_true, Bool.or_eq_false_iff, Bool.true_eq, Bool.false_eq, reduceCtorEq] at hb3
          refine awp_skip ?_
          try simp only [thenA_normal]
          first
          | exact ⟨_, rfl, Sub.refl _, by rw [if_pos hb3]; rfl⟩
          | exact ⟨_, rfl, Sub.refl _, by rw [if_neg (by rw [hb3]; decide)]⟩
      · rintro s hs
        subst hs
        -- region 8  decimals.go:92
        refine awp_rseq [5, 6] (by rfl) fun K hK => ?_
        simp (decide := true) only [ev, putD, Slots.put, Slots.get, if_true, if_false, true_and, ↓ap_move, pop_move]
        repeat (with_reducible refine And.intro ?_ ?_; · first | trivial | omega | (intro hg; simp only [Bool.and_eq_true, Bool.or_eq_true, Bool.not_eq_true', Bool.and_eq_false_iff, Bool.or_eq_false_iff, Bool.not_eq_false', decide_eq_true_eq, decide_eq_false_iff_not, eqNil] at hg; omega) | (simp only [List.length_append, List.length_map, List.length_range, List.length_replicate, List.length_take, List.length_drop, List.length_cons, List.length_nil, List.length_set, List.length_reverse]; omega))
        refine aOps_call (by rfl) (by rfl) (c_ParseInt w₀ he _ d.neg d.dig dd nd (by omega)) fun x8q1 h8q1 hx8q1 => ?_
        obtain ⟨⟨n, rfl, hn⟩, rfl⟩ := hx8q1
        simp (decide := true) only [aOps_nil, ev, putD, Slots.put, Slots.get, Slots.keep, if_true, if_false, true_and, ↓ap_move, pop_move, ↓ap_extract, pop_extract, pExt_tuple, List.length_cons, List.length_nil, List.getD_cons_zero, List.getD_cons_succ, ↓ap_assign, pop_assign, List.getD_cons_zero, List.getD_cons_succ, Nat.zero_add, Nat.reduceAdd]
        repeat (with_reducible refine And.intro ?_ ?_; · first | trivial | omega | (intro hg; simp only [Bool.and_eq_true, Bool.or_eq_true, Bool.not_eq_true', Bool.and_eq_false_iff, Bool.or_eq_false_iff, Bool.not_eq_false', decide_eq_true_eq, decide_eq_false_iff_not, eqNil] at hg; omega) | (simp only [List.length_append, List.length_map, List.length_range, List.length_replicate, List.length_take, List.length_drop, List.length_cons, List.length_nil, List.length_set, List.length_reverse]; omega))
        apply hK; clear hK K
        refine awp_seq ?_
        -- region 9  decimals.go:93
        refine awp_rseq [5, 27] (by rfl) fun K hK => ?_
        simp (decide := true) only [aOps_nil, ev, absV, absS, putD, Slots.put, Slots.get, Slots.keep, if_true, if_false, true_and, ↓ap_move, pop_move, ↓ap_binOp, pop_binOp, isNilC_nil, cond_true, pIfNil_errA]
        repeat (with_reducible refine And.intro ?_ ?_; · first | trivial | omega | (intro hg; simp only [Bool.and_eq_true, Bool.or_eq_true, Bool.not_eq_true', Bool.and_eq_false_iff, Bool.or_eq_false_iff, Bool.not_eq_false', decide_eq_true_eq, decide_eq_false_iff_not, eqNil] at hg; omega) | (simp only [List.length_append, List.length_map, List.length_range, List.length_replicate, List.length_take, List.length_drop, List.length_cons, List.length_nil, List.length_set, List.length_reverse]; omega))
        apply hK; clear hK K
        refine awp_cond (b := _) rfl (fun hb4 => ?_) (fun hb4 => ?_)
        · try simp only [Bool.not_eq_true'] at hb4
          -- region 10  decimals.go:94
          refine awp_rseq [2, 3] (by rfl) fun K hK => ?_
          simp (decide := true) only [aOps_nil, ev, absV, absS, putD, Slots.put, Slots.keep, if_true, if_false, true_and, ↓ap_assign, pop_assign]
          repeat (with_reducible refine And.intro ?_ ?_; · first | trivial | omega | (intro hg; simp only [Bool.and_eq_true, Bool.or_eq_true, Bool.not_eq_true', Bool.and_eq_false_iff, Bool.or_eq_false_iff, Bool.not_eq_false', decide_eq_true_eq, decide_eq_false_iff_not, eqNil] at hg; omega) | (simp only [List.length_append, List.length_map, List.length_range, List.length_replicate, List.length_take, List.length_drop, List.length_cons, List.length_nil, List.length_set, List.length_reverse]; omega))
          apply hK; clear hK K
          refine awp_ret ?_
          try simp only [thenA_ret]
          refine retA_ret h (by repeat (first | exact Sub.refl _ | assumption | refine Sub.trans_set ?_ (by assumption))) (resPre_tmp (resPre_tmp (resPre_nil))) ?_
          simp (decide := true) only [Slots.get, if_true, if_false, and_true, resOf_two]
          rw [toIntE, if_neg (fun e => e hv), if_neg hb2, if_neg (by rw [hb4]; decide)]
        · try simp only [Bool.not_eq_false'] at hb4
          refine awp_skip ?_
          change Awp _ _ _ _ _ _ _
          -- region 11  decimals.go:96
          refine awp_rseq [2, 3] (by rfl) fun K hK => ?_
          simp (decide := true) only [aOps_nil, ev, absV, absS, putD, Slots.put, Slots.get, Slots.keep, if_true, if_false, true_and, ↓ap_move, pop_move, ↓ap_assign, pop_assign]
          repeat (with_reducible refine And.intro ?_ ?_; · first | trivial | omega | (intro hg; simp only [Bool.and_eq_true, Bool.or_eq_true, Bool.not_eq_true', Bool.and_eq_false_iff, Bool.or_eq_false_iff, Bool.not_eq_false', decide_eq_true_eq, decide_eq_false_iff_not, eqNil] at hg; omega) | (simp only [List.length_append, List.length_map, List.length_range, List.length_replicate, List.length_take, List.length_drop, List.length_cons, List.length_nil, List.length_set, List.length_reverse]; omega))
          apply hK; clear hK K
          refine awp_ret ?_
          try simp only [thenA_ret, inBlockA_ret]
          refine retA_ret h (by repeat (first | exact Sub.refl _ | assumption | refine Sub.trans_set ?_ (by assumption))) (resPre_tmp (resPre_tmp (resPre_nil))) ?_
          simp (decide := true) only [Slots.get, if_true, if_false, and_true, resOf_two]
          rw [toIntE, if_neg (fun e => e hv), if_neg hb2, if_pos hb4, hn hb4]
end Go.Proofs.YthiiakghjoeikaaGreatDoor

/-
  Contracts: Pow, Int of the package decimals; of, of the statements.
  Conditions: none.
-/
namespace Go.Proofs.YthiiakghjoeikaaGreatDoor
open Go.AM
open Go.Proofs
open Go.Dec
open Go.Lib (decDigits)
set_option maxRecDepth 100000

def powE (a n : D) : D × Int :=
  if checkE a = 0 ∧ checkE n = 0 then
    if (toIntE n).2 = 12 then (noD, 12)
    else if (toIntE n).2 ≠ 0 ∨ (toIntE n).1 < 0 ∨ 99 < (toIntE n).1 then (noD, 13)
    else normE (a.neg && decide ((toIntE n).1 % 2 = 1)) (natOf a.dig ^ (toIntE n).1.toNat) (a.scale * (toIntE n).1)
  else (noD, 1)
theorem pow_len {A i B : Nat} (hA : A < 10 ^ 62) (hi : 62 * i < B) : (trN (A ^ i)).length ≤ B := by
  refine trN_len.2 (Nat.lt_of_le_of_lt (Nat.pow_le_pow_left (Nat.le_of_lt hA) i) ?_)
  rw [← Nat.pow_mul]
  exact Nat.pow_lt_pow_right (by omega) hi
theorem trN_one : trN 1 = [49] := by rw [trN, if_neg (by decide), decDigits_small (by omega)]; rfl
set_option maxHeartbeats 1000000 in
theorem c_Pow (w₀ : World) (he : Errs w₀) (h : AHeap) (a n : D) (la : a.dig.length ≤ 9223372036854775807) (ln : n.dig.length ≤ 9223372036854775807) :
    ACall Tryz.prog w₀ 31 [decA a, decA n] h (fun v h' => v = .tuple [decA (powE a n).1, .int .i64 (powE a n).2] ∧ h' = h) := by
  obtain ⟨k, e, hke⟩ : ∃ k e, toIntE n = (k, e) := ⟨_, _, rfl⟩
  refine acall_intro (n := 63) (rs := [.cell 4 27, .tmp 5]) Tryz.func31 rfl rfl rfl rfl (Nat.le_of_ble_eq_true rfl) ?_
  simp only [initSlots]
  -- region 0  decimals.go:290
  refine awp_rseq [2, 3, 4] (by rfl) fun K hK => ?_
  refine aOps_box (by rfl) (by rfl) (by rfl) fun k0q0 hk0q0 => ?_
  try have hf_0q0 : h k0q0 = none := by first | assumption | (simp only [AHeap.set_none] at hk0q0; simp only [hk0q0])
  skip
  refine aOps_box (by rfl) (by rfl) (by rfl) fun k0q1 hk0q1 => ?_
  have ne_0q1_0q0 : k0q1 ≠ k0q0 := by simp only [AHeap.set_none] at hk0q1; simp only [hk0q1, ne_eq, not_false_eq_true]
  try have hf_0q1 : h k0q1 = none := by first | assumption | (simp only [AHeap.set_none] at hk0q1; simp only [hk0q1])
  skip
  refine aOps_alloc ze27 (cs := [.bool false, .str [], .int .i64 0]) (by rfl) fun k0q2 hk0q2 => ?_
  have ne_0q2_0q0 : k0q2 ≠ k0q0 := by simp only [AHeap.set_none] at hk0q2; simp only [hk0q2, ne_eq, not_false_eq_true]
  have ne_0q2_0q1 : k0q2 ≠ k0q1 := by simp only [AHeap.set_none] at hk0q2; simp only [hk0q2, ne_eq, not_false_eq_true]
  try have hf_0q2 : h k0q2 = none := by first | assumption | (simp only [AHeap.set_none] at hk0q2; simp only [hk0q2])
  simp (decide := true) only [aOps_nil, ev, absV, absS, putD, Slots.put, Slots.get, Slots.keep, if_true, if_false, true_and, ↓ap_assign, pop_assign, AVal.cells, Nat.zero_add, decA]
  repeat (with_reducible refine And.intro ?_ ?_; · first | trivial | omega | (intro hg; simp only [Bool.and_eq_true, Bool.or_eq_true, Bool.not_eq_true', Bool.and_eq_false_iff, Bool.or_eq_false_iff, Bool.not_eq_false', decide_eq_true_eq, decide_eq_false_iff_not, eqNil] at hg; omega) | (simp only [List.length_append, List.length_map, List.length_range, List.length_replicate, List.length_take, List.length_drop, List.length_cons, List.length_nil, List.length_set, List.length_reverse]; omega))
  apply hK; clear hK K
  refine awp_seq ?_
  -- region 1  decimals.go:291
  refine awp_rseq [2, 3, 4, 6] (by rfl) fun K hK => ?_
  simp (decide := true) only [ev, putD, Slots.put, Slots.get, if_true, if_false, true_and, ↓ap_loadL, apL_mk, pLoad_agg ag27 sz27, rd_ne', ne_eq, not_false_eq_true, ne_0q1_0q0.symm, ne_0q2_0q0.symm, ne_0q2_0q1.symm, rd_any, cellsAt, List.getD_cons_zero, List.getD_cons_succ, Nat.zero_add, Nat.reduceAdd, lv_bool, lv_int, lv_str, allLive, Bool.and_true]
  repeat (with_reducible refine And.intro ?_ ?_; · first | trivial | omega | (intro hg; simp only [Bool.and_eq_true, Bool.or_eq_true, Bool.not_eq_true', Bool.and_eq_false_iff, Bool.or_eq_false_iff, Bool.not_eq_false', decide_eq_true_eq, decide_eq_false_iff_not, eqNil] at hg; omega) | (simp only [List.length_append, List.length_map, List.length_range, List.length_replicate, List.length_take, List.length_drop, List.length_cons, List.length_nil, List.length_set, List.length_reverse]; omega))
  refine aOps_callV (V := .int .i64 (max (checkE a) (checkE n))) (by rfl) (by rfl) (c_both w₀ _ a n la ln) ?_
  simp (decide := true) only [aOps_nil, ev, putD, Slots.put, Slots.get, Slots.keep, if_true, if_false, true_and, ↓ap_assign, pop_assign]
  repeat (with_reducible refine And.intro ?_ ?_; · first | trivial | omega | (intro hg; simp only [Bool.and_eq_true, Bool.or_eq_true, Bool.not_eq_true', Bool.and_eq_false_iff, Bool.or_eq_false_iff, Bool.not_eq_false', decide_eq_true_eq, decide_eq_false_iff_not, eqNil] at hg; omega) | (simp only [List.length_append, List.length_map, List.length_range, List.length_replicate, List.length_take, List.length_drop, List.length_cons, List.length_nil, List.length_set, List.length_reverse]; omega))
  apply hK; clear hK K
  -- region 2  decimals.go:291
  refine awp_rseq [2, 3, 4, 6, 14] (by rfl) fun K hK => ?_
  simp (decide := true) only [aOps_nil, ev, absV, absS, putD, Slots.put, Slots.get, Slots.keep, if_true, if_false, true_and, ↓ap_move, pop_move, ↓ap_binOp, pop_binOp, isNilC_int, cond_false, pBinX_int, pI_neq]
  repeat (with_reducible refine And.intro ?_ ?_; · first | trivial | omega | (intro hg; simp only [Bool.and_eq_true, Bool.or_eq_true, Bool.not_eq_true', Bool.and_eq_false_iff, Bool.or_eq_false_iff, Bool.not_eq_false', decide_eq_true_eq, decide_eq_false_iff_not, eqNil] at hg; omega) | (simp only [List.length_append, List.length_map, List.length_range, List.length_replicate, List.length_take, List.length_drop, List.length_cons, List.length_nil, List.length_set, List.length_reverse]; omega))
  apply hK; clear hK K
  refine awp_cond (b := _) rfl (fun hb1 => ?_) (fun hb1 => ?_)
  · try simp only [decide_eq_false_iff_not, Bool.not_eq_true'] at hb1
    -- region 3  decimals.go:292
    refine awp_rseq [4, 5] (by rfl) fun K hK => ?_
    simp (decide := true) only [ev, absV, absS, putD, Slots.put, Slots.get, if_true, if_false, true_and, ↓ap_build, ↓pop_buildL, bld27_, evP, List.map_nil, ↓ap_move, pop_move]
    repeat (with_reducible refine And.intro ?_ ?_; · first | trivial | omega | (intro hg; simp only [Bool.and_eq_true, Bool.or_eq_true, Bool.not_eq_true', Bool.and_eq_false_iff, Bool.or_eq_false_iff, Bool.not_eq_false', decide_eq_true_eq, decide_eq_false_iff_not, eqNil] at hg; omega) | (simp only [List.length_append, List.length_map, List.length_range, List.length_replicate, List.length_take, List.length_drop, List.length_cons, List.length_nil, List.length_set, List.length_reverse]; omega))
    refine aOps_store (by rfl) (by rfl) (by repeat (first | exact AHeap.set_same _ _ _ | assumption | refine (AHeap.set_ne _ _ (by first | assumption | exact Ne.symm (by assumption))).trans ?_)) sz27 (by rfl) (by rfl) (by first | exact Nat.le_refl _ | decide | (simp; done) | (simp; omega)) (Nat.zero_le _) (by rfl) ?_
    simp only [AHeap.set_set, AVal.cells]
    simp (decide := true) only [aOps_nil, ev, putD, Slots.put, Slots.get, Slots.keep, if_true, if_false, true_and, ↓ap_assign, pop_assign, setAt, List.set_cons_zero, List.set_cons_succ, Nat.zero_add, Nat.reduceAdd]
    repeat (with_reducible refine And.intro ?_ ?_; · first | trivial | omega | (intro hg; simp only [Bool.and_eq_true, Bool.or_eq_true, Bool.not_eq_true', Bool.and_eq_false_iff, Bool.or_eq_false_iff, Bool.not_eq_false', decide_eq_true_eq, decide_eq_false_iff_not, eqNil] at hg; omega) | (simp only [List.length_append, List.length_map, List.length_range, List.length_replicate, List.length_take, List.length_drop, List.length_cons, List.length_nil, List.length_set, List.length_reverse]; omega))
    apply hK; clear hK K
    refine awp_ret ?_
    try simp only [thenA_ret]
    refine retA_ret h (by repeat (first | exact Sub.refl _ | assumption | refine Sub.trans_set ?_ (by assumption))) (?_) ?_
    · simp (decide := true) only [resPre, resV_tmp, resV_cell, Slots.get, if_true, if_false, and_true, resV_tmp, resV_cell, pLoad_agg ag27 sz27, rd_set, cellsAt, List.getD_cons_zero, List.getD_cons_succ, Nat.zero_add, Nat.reduceAdd, lv_bool, lv_int, lv_str, allLive, Bool.and_true, cellsAt, List.getD_cons_zero, List.getD_cons_succ, Nat.zero_add, Nat.reduceAdd, lv_bool, lv_int, lv_str, allLive, Bool.and_true]
    
    simp (decide := true) only [Slots.get, if_true, if_false, and_true, resOfG_two, resV_tmp, resV_cell, pLoad_agg ag27 sz27, rd_set, cellsAt, List.getD_cons_zero, List.getD_cons_succ, Nat.zero_add, Nat.reduceAdd, lv_bool, lv_int, lv_str, allLive, Bool.and_true, cellsAt, List.getD_cons_zero, List.getD_cons_succ, Nat.zero_add, Nat.reduceAdd, lv_bool, lv_int, lv_str, allLive, Bool.and_true, decA]
    obtain ⟨e1, e2⟩ := both_bad hb1
    rw [powE, if_neg e2, e1]
    rfl
  · try simp only [decide_eq_true_eq, Bool.not_eq_false'] at hb1
    obtain ⟨ca, cn⟩ := both_ok (by simpa using hb1)
    obtain ⟨sa, da, na, _⟩ := Small_of_check ca
    have ha1 := sa.l
    have ha2 := sa.s0
    have ha3 := sa.s1
    refine awp_skip ?_
    change Awp _ _ _ _ _ _ _
    -- region 4  decimals.go:294
    refine awp_rseq [2, 4, 7, 8] (by rfl) fun K hK => ?_
    simp (decide := true) only [ev, putD, Slots.put, Slots.get, if_true, if_false, true_and, ↓ap_loadL, apL_mk, pLoad_agg ag27 sz27, rd_ne', ne_eq, not_false_eq_true, ne_0q2_0q1.symm, rd_any, cellsAt, List.getD_cons_zero, List.getD_cons_succ, Nat.zero_add, Nat.reduceAdd, lv_bool, lv_int, lv_str, allLive, Bool.and_true]
    repeat (with_reducible refine And.intro ?_ ?_; · first | trivial | omega | (intro hg; simp only [Bool.and_eq_true, Bool.or_eq_true, Bool.not_eq_true', Bool.and_eq_false_iff, Bool.or_eq_false_iff, Bool.not_eq_false', decide_eq_true_eq, decide_eq_false_iff_not, eqNil] at hg; omega) | (simp only [List.length_append, List.length_map, List.length_range, List.length_replicate, List.length_take, List.length_drop, List.length_cons, List.length_nil, List.length_set, List.length_reverse]; omega))
    refine aOps_callV (V := .tuple [.int .i64 k, .int .i64 e]) (by rfl) (by rfl) ((c_ToInt w₀ he _ n ln).val (by rw [hke])) ?_
    simp (decide := true) only [aOps_nil, ev, putD, Slots.put, Slots.get, Slots.keep, if_true, if_false, true_and, ↓ap_move, pop_move, ↓ap_extract, pop_extract, pExt_tuple, List.length_cons, List.length_nil, List.getD_cons_zero, List.getD_cons_succ, ↓ap_assign, pop_assign, List.getD_cons_zero, List.getD_cons_succ, Nat.zero_add, Nat.reduceAdd]
    repeat (with_reducible refine And.intro ?_ ?_; · first | trivial | omega | (intro hg; simp only [Bool.and_eq_true, Bool.or_eq_true, Bool.not_eq_true', Bool.and_eq_false_iff, Bool.or_eq_false_iff, Bool.not_eq_false', decide_eq_true_eq, decide_eq_false_iff_not, eqNil] at hg; omega) | (simp only [List.length_append, List.length_map, List.length_range, List.length_replicate, List.length_take, List.length_drop, List.length_cons, List.length_nil, List.length_set, List.length_reverse]; omega))
    apply hK; clear hK K
    refine awp_seq ?_
    refine awp_block ?_
    -- region 5  decimals.go:296
    refine awp_rseq [2, 4, 7, 8, 22] (by rfl) fun K hK => ?_
    simp (decide := true) only [aOps_nil, ev, absV, absS, putD, Slots.put, Slots.get, Slots.keep, if_true, if_false, true_and, ↓ap_move, pop_move, ↓ap_binOp, pop_binOp, isNilC_int, cond_false, pBinX_int, pI_eql, ↓ap_assign, pop_assign]
    repeat (with_reducible refine And.intro ?_ ?_; · first | trivial | omega | (intro hg; simp only [Bool.and_eq_true, Bool.or_eq_true, Bool.not_eq_true', Bool.and_eq_false_iff, Bool.or_eq_false_iff, Bool.not_eq_false', decide_eq_true_eq, decide_eq_false_iff_not, eqNil] at hg; omega) | (simp only [List.length_append, List.length_map, List.length_range, List.length_replicate, List.length_take, List.length_drop, List.length_cons, List.length_nil, List.length_set, List.length_reverse]; omega))
    apply hK; clear hK K
    refine awp_cond (b := _) rfl (fun hb2 => ?_) (fun hb2 => ?_)
    · try simp only [decide_eq_true_eq] at hb2
      -- region 6  decimals.go:297
      refine awp_rseq [4, 5] (by rfl) fun K hK => ?_
      simp (decide := true) only [ev, absV, absS, putD, Slots.put, Slots.get, if_true, if_false, true_and, ↓ap_build, ↓pop_buildL, bld27_, evP, List.map_nil, ↓ap_move, pop_move]
      repeat (with_reducible refine And.intro ?_ ?_; · first | trivial | omega | (intro hg; simp only [Bool.and_eq_true, Bool.or_eq_true, Bool.not_eq_true', Bool.and_eq_false_iff, Bool.or_eq_false_iff, Bool.not_eq_false', decide_eq_true_eq, decide_eq_false_iff_not, eqNil] at hg; omega) | (simp only [List.length_append, List.length_map, List.length_range, List.length_replicate, List.length_take, List.length_drop, List.length_cons, List.length_nil, List.length_set, List.length_reverse]; omega))
      refine aOps_store (by rfl) (by rfl) (by repeat (first | exact AHeap.set_same _ _ _ | assumption | refine (AHeap.set_ne _ _ (by first | assumption | exact Ne.symm (by assumption))).trans ?_)) sz27 (by rfl) (by rfl) (by first | exact Nat.le_refl _ | decide | (simp; done) | (simp; omega)) (Nat.zero_le _) (by rfl) ?_
      simp only [AHeap.set_set, AVal.cells]
      simp (decide := true) only [aOps_nil, ev, putD, Slots.put, Slots.get, Slots.keep, if_true, if_false, true_and, ↓ap_assign, pop_assign, setAt, List.set_cons_zero, List.set_cons_succ, Nat.zero_add, Nat.reduceAdd]
      repeat (with_reducible refine And.intro ?_ ?_; · first | trivial | omega | (intro hg; simp only [Bool.and_eq_true, Bool.or_eq_true, Bool.not_eq_true', Bool.and_eq_false_iff, Bool.or_eq_false_iff, Bool.not_eq_false', decide_eq_true_eq, decide_eq_false_iff_not, eqNil] at hg; omega) | (simp only [List.length_append, List.length_map, List.length_range, List.length_replicate, List.length_take, List.length_drop, List.length_cons, List.length_nil, List.length_set, List.length_reverse]; omega))
      apply hK; clear hK K
      refine awp_ret ?_
      try simp only [thenA_ret, inBlockA_ret]
      refine retA_ret h (by repeat (first | exact Sub.refl _ | assumption | refine Sub.trans_set ?_ (by assumption))) (?_) ?_
      · simp (decide := true) only [resPre, resV_tmp, resV_cell, Slots.get, if_true, if_false, and_true, resV_tmp, resV_cell, pLoad_agg ag27 sz27, rd_set, cellsAt, List.getD_cons_zero, List.getD_cons_succ, Nat.zero_add, Nat.reduceAdd, lv_bool, lv_int, lv_str, allLive, Bool.and_true, cellsAt, List.getD_cons_zero, List.getD_cons_succ, Nat.zero_add, Nat.reduceAdd, lv_bool, lv_int, lv_str, allLive, Bool.and_true]
      
      simp (decide := true) only [Slots.get, if_true, if_false, and_true, resOfG_two, resV_tmp, resV_cell, pLoad_agg ag27 sz27, rd_set, cellsAt, List.getD_cons_zero, List.getD_cons_succ, Nat.zero_add, Nat.reduceAdd, lv_bool, lv_int, lv_str, allLive, Bool.and_true, cellsAt, List.getD_cons_zero, List.getD_cons_succ, Nat.zero_add, Nat.reduceAdd, lv_bool, lv_int, lv_str, allLive, Bool.and_true, decA]
      rw [powE, if_pos ⟨ca, cn⟩, hke, if_pos hb2, hb2]
      rfl
    · try simp only [decide_eq_false_iff_not] at hb2
      -- region 7  decimals.go:298
      refine awp_rseq [2, 4, 7, 27] (by rfl) fun K hK => ?_
      simp (decide := true) only [aOps_nil, ev, absV, absS, putD, Slots.put, Slots.get, Slots.keep, if_true, if_false, true_and, ↓ap_move, pop_move, ↓ap_binOp, pop_binOp, isNilC_int, cond_false, pBinX_int, pI_neq, ↓ag_move, agP, agQ_some, nthDst, gKnown_bool, guardB_bool_false, implies_true, Bool.not_not, ↓ag_binOp, cv_binl, cp_binl, pI_lss, ↓ap_pick, pop_pick, pPick_bool, pickV_cond_r, pickV_cond_rn, pickV_or, pI_gtr, ↓ap_assign, pop_assign]
      repeat (with_reducible refine And.intro ?_ ?_; · first | trivial | omega | (intro hg; simp only [Bool.and_eq_true, Bool.or_eq_true, Bool.not_eq_true', Bool.and_eq_false_iff, Bool.or_eq_false_iff, Bool.not_eq_false', decide_eq_true_eq, decide_eq_false_iff_not, eqNil] at hg; omega) | (simp only [List.length_append, List.length_map, List.length_range, List.length_replicate, List.length_take, List.length_drop, List.length_cons, List.length_nil, List.length_set, List.length_reverse]; omega))
      apply hK; clear hK K
      refine awp_cond (b := _) rfl (fun hb3 => ?_) (fun hb3 => ?_)
      · try simp only [decide_eq_true_eq, decide_eq_false_iff_not, Bool.not_eq_true', Bool.or_eq_true] at hb3
        -- region 8  decimals.go:299
        refine awp_rseq [4, 5] (by rfl) fun K hK => ?_
        simp (decide := true) only [ev, absV, absS, putD, Slots.put, Slots.get, if_false, true_and, ↓ap_build, ↓pop_buildL, bld27_, evP, List.map_nil]
        repeat (with_reducible refine And.intro ?_ ?_; · first | trivial | omega | (intro hg; simp only [Bool.and_eq_true, Bool.or_eq_true, Bool.not_eq_true', Bool.and_eq_false_iff, Bool.or_eq_false_iff, Bool.not_eq_false', decide_eq_true_eq, decide_eq_false_iff_not, eqNil] at hg; omega) | (simp only [List.length_append, List.length_map, List.length_range, List.length_replicate, List.length_take, List.length_drop, List.length_cons, List.length_nil, List.length_set, List.length_reverse]; omega))
        refine aOps_store (by rfl) (by rfl) (by repeat (first | exact AHeap.set_same _ _ _ | assumption | refine (AHeap.set_ne _ _ (by first | assumption | exact Ne.symm (by assumption))).trans ?_)) sz27 (by rfl) (by rfl) (by first | exact Nat.le_refl _ | decide | (simp; done) | (simp; omega)) (Nat.zero_le _) (by rfl) ?_
        simp only [AHeap.set_set, AVal.cells]
        simp (decide := true) only [aOps_nil, ev, absV, absS, putD, Slots.put, Slots.get, Slots.keep, if_true, if_false, true_and, ↓ap_assign, pop_assign, setAt, List.set_cons_zero, List.set_cons_succ, Nat.zero_add, Nat.reduceAdd]
        repeat (with_reducible refine And.intro ?_ ?_; · first | trivial | omega | (intro hg; simp only [Bool.and_eq_true, Bool.or_eq_true, Bool.not_eq_true', Bool.and_eq_false_iff, Bool.or_eq_false_iff, Bool.not_eq_false', decide_eq_true_eq, decide_eq_false_iff_not, eqNil] at hg; omega) | (simp only [List.length_append, List.length_map, List.length_range, List.length_replicate, List.length_take, List.length_drop, List.length_cons, List.length_nil, List.length_set, List.length_reverse]; omega))
        apply hK; clear hK K
        refine awp_ret ?_
        try simp only [thenA_ret, inBlockA_ret]
        refine retA_ret h (by repeat (first | exact Sub.refl _ | assumption | refine Sub.trans_set ?_ (by assumption))) (?_) ?_
        · simp (decide := true) only [resPre, resV_tmp, resV_cell, Slots.get, if_true, if_false, and_true, resV_tmp, resV_cell, pLoad_agg ag27 sz27, rd_set, cellsAt, List.getD_cons_zero, List.getD_cons_succ, Nat.zero_add, Nat.reduceAdd, lv_bool, lv_int, lv_str, allLive, Bool.and_true, cellsAt, List.getD_cons_zero, List.getD_cons_succ, Nat.zero_add, Nat.reduceAdd, lv_bool, lv_int, lv_str, allLive, Bool.and_true]
        
        simp (decide := true) only [Slots.get, if_true, if_false, and_true, resOfG_two, resV_tmp, resV_cell, pLoad_agg ag27 sz27, rd_set, cellsAt, List.getD_cons_zero, List.getD_cons_succ, Nat.zero_add, Nat.reduceAdd, lv_bool, lv_int, lv_str, allLive, Bool.and_true, cellsAt, List.getD_cons_zero, List.getD_cons_succ, Nat.zero_add, Nat.reduceAdd, lv_bool, lv_int, lv_str, allLive, Bool.and_true, decA]
        rw [powE, if_pos ⟨ca, cn⟩, hke, if_neg hb2, if_pos (by rcases hb3 with (q | q) | q; exact .inl q; exact .inr (.inl q); exact .inr (.inr q))]
        rfl
      · try simp only [decide_eq_true_eq, decide_eq_false_iff_not, Bool.not_eq_false', Bool.or_eq_false_iff] at hb3
        have hk : e = 0 ∧ 0 ≤ k ∧ k ≤ 99 := by omega
        obtain ⟨he0, hk0, hk99⟩ := hk
        have hA := natOf_lt _ da
        have hA62 : natOf a.dig < 10 ^ 62 := Nat.lt_of_lt_of_le hA (Nat.pow_le_pow_right (by omega) ha1)
        have hAl : ∀ i : Nat, i ≤ 99 → (trN (natOf a.dig ^ i)).length ≤ 6139 := fun i hi => pow_len hA62 (by omega)
        refine awp_skip ?_
        change Awp _ _ _ _ _ _ _
        -- region 9  decimals.go:301
        refine awp_rseq [2, 4, 7, 9] (by rfl) fun K hK => ?_
        simp (decide := true) only [aOps_nil, ev, absV, absS, putD, Slots.put, Slots.keep, if_true, if_false, true_and, ↓ap_assign, pop_assign]
        repeat (with_reducible refine And.intro ?_ ?_; · first | trivial | omega | (intro hg; simp only [Bool.and_eq_true, Bool.or_eq_true, Bool.not_eq_true', Bool.and_eq_false_iff, Bool.or_eq_false_iff, Bool.not_eq_false', decide_eq_true_eq, decide_eq_false_iff_not, eqNil] at hg; omega) | (simp only [List.length_append, List.length_map, List.length_range, List.length_replicate, List.length_take, List.length_drop, List.length_cons, List.length_nil, List.length_set, List.length_reverse]; omega))
        apply hK; clear hK K
        refine awp_seq ?_
        -- region 10  decimals.go:302
        refine awp_rseq [2, 4, 7, 9, 39, 40] (by rfl) fun K hK => ?_
        simp (decide := true) only [aOps_nil, ev, absV, absS, putD, Slots.put, Slots.get, Slots.keep, if_true, if_false, true_and, ↓ap_move, pop_move]
        repeat (with_reducible refine And.intro ?_ ?_; · first | trivial | omega | (intro hg; simp only [Bool.and_eq_true, Bool.or_eq_true, Bool.not_eq_true', Bool.and_eq_false_iff, Bool.or_eq_false_iff, Bool.not_eq_false', decide_eq_true_eq, decide_eq_false_iff_not, eqNil] at hg; omega) | (simp only [List.length_append, List.length_map, List.length_range, List.length_replicate, List.length_take, List.length_drop, List.length_cons, List.length_nil, List.length_set, List.length_reverse]; omega))
        apply hK; clear hK K
        refine awp_block ?_
        refine awp_loopG [2, 4, 7, 9, 39, 40] (fun i : Nat => [(2, .ptr (.own k0q0) 0), (4, .ptr (.own k0q2) 0), (7, .int .i64 k), (9, .str (trN (natOf a.dig ^ i))), (39, .int .i64 k), (40, .int .i64 i)]) (fun i : Nat => ((h.set k0q0 ⟨[.bool a.neg, .str a.dig, .int .i64 a.scale], 0⟩).set k0q1 ⟨[.bool n.neg, .str n.dig, .int .i64 n.scale], 0⟩).set k0q2 ⟨[.bool false, .str [], .int .i64 0], 0⟩) (fun i : Nat => (i : Int) ≤ k) (fun i : Nat => 100 - i) 0 (by rw [Nat.pow_zero, trN_one]; rfl) (Sub.refl _) (by omega) ?_
        intro i hi
        have hil := hAl i (by omega)
        -- region 11  decimals.go:302
        refine awp_rseq [2, 4, 7, 9, 39, 40, 41] (by rfl) fun K hK => ?_
        simp (decide := true) only [aOps_nil, ev, putD, Slots.put, Slots.get, Slots.keep, if_true, if_false, true_and, ↓ap_binOp, pop_binOp, isNilC_tmp, cond_false, pBinX_int, pI_lss]
        repeat (with_reducible refine And.intro ?_ ?_; · first | trivial | omega | (intro hg; simp only [Bool.and_eq_true, Bool.or_eq_true, Bool.not_eq_true', Bool.and_eq_false_iff, Bool.or_eq_false_iff, Bool.not_eq_false', decide_eq_true_eq, decide_eq_false_iff_not, eqNil] at hg; omega) | (simp only [List.length_append, List.length_map, List.length_range, List.length_replicate, List.length_take, List.length_drop, List.length_cons, List.length_nil, List.length_set, List.length_reverse]; omega))
        apply hK; clear hK K
        refine awp_seq (awp_cond (b := _) rfl (fun hb4 => ?_) (fun hb4 => ?_))
        · try simp only [decide_eq_true_eq] at hb4
          refine awp_skip ?_
          change Awp _ _ _ _ _ _ _
          refine awp_seq ?_
          refine awp_block ?_
          -- region 12  decimals.go:303
          refine awp_r [2, 4, 7, 9, 39, 40] (by rfl) ?_
          simp (decide := true) only [ev, putD, Slots.put, Slots.get, if_true, if_false, true_and, ↓ap_move, pop_move, ↓ap_fieldAddr, pop_fieldAddr, fa27_1, ↓ap_loadL, apL_mk, pLoad_one ag9, rd_ne', ne_eq, not_false_eq_true, ne_0q1_0q0.symm, ne_0q2_0q0.symm, rd_any, List.getD_cons_zero, List.getD_cons_succ, Nat.zero_add, lv_str, decA]
          repeat (with_reducible refine And.intro ?_ ?_; · first | trivial | omega | (intro hg; simp only [Bool.and_eq_true, Bool.or_eq_true, Bool.not_eq_true', Bool.and_eq_false_iff, Bool.or_eq_false_iff, Bool.not_eq_false', decide_eq_true_eq, decide_eq_false_iff_not, eqNil] at hg; omega) | (simp only [List.length_append, List.length_map, List.length_range, List.length_replicate, List.length_take, List.length_drop, List.length_cons, List.length_nil, List.length_set, List.length_reverse]; omega))
          refine aOps_callV (V := .str (fixS (natOf a.dig ^ (i + 1)) ((trN (natOf a.dig ^ i)).length + a.dig.length))) (by rfl) (by rfl) ((c_times w₀ _ (trN (natOf a.dig ^ i)) a.dig (trN_all _) da (by omega) (by omega)).val (by rw [trN_val, Nat.pow_succ])) ?_
          refine aOps_callV (V := .str (trN (natOf a.dig ^ (i + 1)))) (by rfl) (by rfl) ((c_trimLeft0 w₀ _ _ 48 (by decide)).val (by rw [trN_of (fixS_all _ _), natOf_fixS]; have := prod_lt (trN_all (natOf a.dig ^ i)) da; rw [trN_val, ← Nat.pow_succ] at this; exact this)) ?_
          simp (decide := true) only [aOps_nil, ev, putD, Slots.put, Slots.get, Slots.keep, if_true, if_false, true_and, ↓ap_assign, pop_assign]
          repeat (with_reducible refine And.intro ?_ ?_; · first | trivial | omega | (intro hg; simp only [Bool.and_eq_true, Bool.or_eq_true, Bool.not_eq_true', Bool.and_eq_false_iff, Bool.or_eq_false_iff, Bool.not_eq_false', decide_eq_true_eq, decide_eq_false_iff_not, eqNil] at hg; omega) | (simp only [List.length_append, List.length_map, List.length_range, List.length_replicate, List.length_take, List.length_drop, List.length_cons, List.length_nil, List.length_set, List.length_reverse]; omega))
          change Awp _ _ _ _ _ _ _
          -- region 13  decimals.go:302
          refine awp_r [2, 4, 7, 9, 39, 40] (by rfl) ?_
          simp (decide := true) only [aOps_nil, ev, absV, absS, putD, Slots.put, Slots.get, Slots.keep, if_true, if_false, true_and, ↓ap_binOp, pop_binOp, isNilC_int, cond_false, pBinX_int, pI_add, ↓ap_move, pop_move]
          try simp (disch := omega) only [wrap_i64]
          repeat (with_reducible refine And.intro ?_ ?_; · first | trivial | omega | (intro hg; simp only [Bool.and_eq_true, Bool.or_eq_true, Bool.not_eq_true', Bool.and_eq_false_iff, Bool.or_eq_false_iff, Bool.not_eq_false', decide_eq_true_eq, decide_eq_false_iff_not, eqNil] at hg; omega) | (simp only [List.length_append, List.length_map, List.length_range, List.length_replicate, List.length_take, List.length_drop, List.length_cons, List.length_nil, List.length_set, List.length_reverse]; omega))
          try simp only [thenA_normal]
          refine ⟨i + 1, rfl, Sub.refl _, by omega, by omega⟩
        · try simp only [decide_eq_false_iff_not] at hb4
          have hik : k = i := by omega
          subst hik
          have hsk : 0 ≤ a.scale * (i : Int) ∧ a.scale * (i : Int) ≤ 6138 := by
            have h1 : 0 ≤ a.scale * (i : Int) := Int.mul_nonneg ha2 (by omega)
            have h2 : a.scale * (i : Int) ≤ 62 * 99 := Int.mul_le_mul ha3 hk99 (by omega) (by omega)
            omega
          refine awp_exit ?_
          change Awp _ _ _ _ _ _ _
          -- region 14  decimals.go:305
          refine awp_rseq [4, 5] (by rfl) fun K hK => ?_
          simp (decide := true) only [ev, absV, absS, putD, Slots.put, Slots.get, if_true, if_false, true_and, ↓ap_fieldAddr, pop_fieldAddr, fa27_0, ↓ap_loadL, apL_mk, pLoad_one ag4, ↓ap_move, pop_move, ↓ag_move, agP, agQ_some, nthDst, gKnown_bool, guardB_bool_true, implies_true, ↓ag_binOp, pop_binOp, isNilC_int, cond_false, cv_binl, cp_binl, pBinX_int, pI_rem, pI_eql, ↓ap_pick, pop_pick, pPick_bool, pickV_cond_l, pickV_and, fa27_2, pLoad_one ag3, ↓ap_binOp, isNilC_tmp, pI_mul, rd_ne', ne_eq, not_false_eq_true, ne_0q1_0q0.symm, ne_0q2_0q0.symm, rd_any, List.getD_cons_zero, List.getD_cons_succ, Nat.zero_add, lv_bool, lv_int]
          try simp (disch := omega) only [Int.tmod_eq_emod_of_nonneg, wrap_i64]
          repeat (with_reducible refine And.intro ?_ ?_; · first | trivial | omega | (intro hg; simp only [Bool.and_eq_true, Bool.or_eq_true, Bool.not_eq_true', Bool.and_eq_false_iff, Bool.or_eq_false_iff, Bool.not_eq_false', decide_eq_true_eq, decide_eq_false_iff_not, eqNil] at hg; omega) | (simp only [List.length_append, List.length_map, List.length_range, List.length_replicate, List.length_take, List.length_drop, List.length_cons, List.length_nil, List.length_set, List.length_reverse]; omega))
          refine aOps_callV (V := .tuple [decA (normE (a.neg && decide ((i : Int) % 2 = 1)) (natOf a.dig ^ i) (a.scale * i)).1, .int .i64 (normE (a.neg && decide ((i : Int) % 2 = 1)) (natOf a.dig ^ i) (a.scale * i)).2]) (by rfl) (by rfl) ((c_normal w₀ _ _ _ _ (trN_all _) (by omega) (by omega) (by omega)).val (by rw [trN_val])) ?_
          simp (decide := true) only [ev, putD, Slots.put, Slots.get, if_true, if_false, true_and, ↓ap_extract, pop_extract, pExt_tuple, List.length_cons, List.length_nil, List.getD_cons_zero, List.getD_cons_succ, List.getD_cons_zero, List.getD_cons_succ, Nat.zero_add, Nat.reduceAdd, decA]
          repeat (with_reducible refine And.intro ?_ ?_; · first | trivial | omega | (intro hg; simp only [Bool.and_eq_true, Bool.or_eq_true, Bool.not_eq_true', Bool.and_eq_false_iff, Bool.or_eq_false_iff, Bool.not_eq_false', decide_eq_true_eq, decide_eq_false_iff_not, eqNil] at hg; omega) | (simp only [List.length_append, List.length_map, List.length_range, List.length_replicate, List.length_take, List.length_drop, List.length_cons, List.length_nil, List.length_set, List.length_reverse]; omega))
          refine aOps_store (by rfl) (by rfl) (by repeat (first | exact AHeap.set_same _ _ _ | assumption | refine (AHeap.set_ne _ _ (by first | assumption | exact Ne.symm (by assumption))).trans ?_)) sz27 (by rfl) (by rfl) (by first | exact Nat.le_refl _ | decide | (simp; done) | (simp; omega)) (Nat.zero_le _) (by rfl) ?_
          simp only [AHeap.set_set, AVal.cells]
          simp (decide := true) only [aOps_nil, ev, putD, Slots.put, Slots.get, Slots.keep, if_true, if_false, true_and, ↓ap_assign, pop_assign, setAt, List.set_cons_zero, List.set_cons_succ, Nat.zero_add, Nat.reduceAdd]
          repeat (with_reducible refine And.intro ?_ ?_; · first | trivial | omega | (intro hg; simp only [Bool.and_eq_true, Bool.or_eq_true, Bool.not_eq_true', Bool.and_eq_false_iff, Bool.or_eq_false_iff, Bool.not_eq_false', decide_eq_true_eq, decide_eq_false_iff_not, eqNil] at hg; omega) | (simp only [List.length_append, List.length_map, List.length_range, List.length_replicate, List.length_take, List.length_drop, List.length_cons, List.length_nil, List.length_set, List.length_reverse]; omega))
          apply hK; clear hK K
          refine awp_ret ?_
          try simp only [thenA_ret, inBlockA_ret]
          refine retA_ret h (by repeat (first | exact Sub.refl _ | assumption | refine Sub.trans_set ?_ (by assumption))) (?_) ?_
          · simp (decide := true) only [resPre, resV_tmp, resV_cell, Slots.get, if_true, if_false, and_true, resV_tmp, resV_cell, pLoad_agg ag27 sz27, rd_set, cellsAt, List.getD_cons_zero, List.getD_cons_succ, Nat.zero_add, Nat.reduceAdd, lv_bool, lv_int, lv_str, allLive, Bool.and_true, cellsAt, List.getD_cons_zero, List.getD_cons_succ, Nat.zero_add, Nat.reduceAdd, lv_bool, lv_int, lv_str, allLive, Bool.and_true]
          
          simp (decide := true) only [Slots.get, if_true, if_false, and_true, resOfG_two, resV_tmp, resV_cell, pLoad_agg ag27 sz27, rd_set, cellsAt, List.getD_cons_zero, List.getD_cons_succ, Nat.zero_add, Nat.reduceAdd, lv_bool, lv_int, lv_str, allLive, Bool.and_true, cellsAt, List.getD_cons_zero, List.getD_cons_succ, Nat.zero_add, Nat.reduceAdd, lv_bool, lv_int, lv_str, allLive, Bool.and_true, decA]
          rw [powE, if_pos ⟨ca, cn⟩, hke, if_neg hb2, if_neg (by omega), Int.toNat_natCast]

theorem c_of12 (w₀ : World) (ht : Tab10 w₀) (h : AHeap) (n s : Int) (h0 : -1000000 ≤ n) (h1 : n ≤ 1000000) (s0 : 0 ≤ s) (s1 : s ≤ 1000) :
    ACall Tryz.prog w₀ 30 [.int .i64 n, .int .i64 s] h (fun v h' => v = decA (canon (decide (n < 0)) n.natAbs s.toNat) ∧ h' = h) := by
  refine acall_intro (n := 16) (rs := [.cell 4 27]) Tryz.func30 rfl rfl rfl rfl (Nat.le_of_ble_eq_true rfl) ?_
  simp only [initSlots]
  -- region 0  law.go:167
  refine awp_rseq [0, 1, 4] (by rfl) fun K hK => ?_
  refine aOps_alloc ze27 (cs := [.bool false, .str [], .int .i64 0]) (by rfl) fun k0q0 hk0q0 => ?_
  try have hf_0q0 : h k0q0 = none := by first | assumption | (simp only [AHeap.set_none] at hk0q0; simp only [hk0q0])
  simp (decide := true) only [aOps_nil, putD, Slots.put, Slots.keep, if_true, if_false, Nat.zero_add]
  repeat (with_reducible refine And.intro ?_ ?_; · first | trivial | omega | (intro hg; simp only [Bool.and_eq_true, Bool.or_eq_true, Bool.not_eq_true', Bool.and_eq_false_iff, Bool.or_eq_false_iff, Bool.not_eq_false', decide_eq_true_eq, decide_eq_false_iff_not, eqNil] at hg; omega) )
  apply hK; clear hK K
  -- region 1  law.go:168
  refine awp_rseq [0, 1, 4, 5] (by rfl) fun K hK => ?_
  simp (decide := true) only [ev, putD, Slots.put, Slots.get, if_true, if_false, true_and, ↓ap_move, pop_move, ↓ap_unOp, pop_unOp, pU_neg, ↓ap_max, pop_max, pMax_int, evs, List.map_cons, List.map_nil]
  try simp (disch := omega) only [wrap_i64]
  repeat (with_reducible refine And.intro ?_ ?_; · first | trivial | omega | (intro hg; simp only [Bool.and_eq_true, Bool.or_eq_true, Bool.not_eq_true', Bool.and_eq_false_iff, Bool.or_eq_false_iff, Bool.not_eq_false', decide_eq_true_eq, decide_eq_false_iff_not, eqNil] at hg; omega) )
  refine aOps_callV (V := .str (decDigits n.natAbs)) (by rfl) (by rfl) ((c_itoa w₀ ht _ (max n (0 - n)) (by omega) (by omega)).val (by rw [Lib.itoa, if_neg (by omega)]; congr 2; omega)) ?_
  simp (decide := true) only [aOps_nil, ev, putD, Slots.put, Slots.get, Slots.keep, if_true, if_false, true_and, ↓ap_assign, pop_assign]
  repeat (with_reducible refine And.intro ?_ ?_; · first | trivial | omega | (intro hg; simp only [Bool.and_eq_true, Bool.or_eq_true, Bool.not_eq_true', Bool.and_eq_false_iff, Bool.or_eq_false_iff, Bool.not_eq_false', decide_eq_true_eq, decide_eq_false_iff_not, eqNil] at hg; omega) )
  apply hK; clear hK K
  -- region 2  law.go:169
  refine awp_rseq [4] (by rfl) fun K hK => ?_
  simp (decide := true) only [ev, absV, absS, putD, Slots.put, Slots.get, if_true, if_false, true_and, ↓ap_move, pop_move, ↓ap_binOp, pop_binOp, isNilC_int, cond_false, pBinX_int, pI_lss]
  repeat (with_reducible refine And.intro ?_ ?_; · first | trivial | omega | (intro hg; simp only [Bool.and_eq_true, Bool.or_eq_true, Bool.not_eq_true', Bool.and_eq_false_iff, Bool.or_eq_false_iff, Bool.not_eq_false', decide_eq_true_eq, decide_eq_false_iff_not, eqNil] at hg; omega) )
  refine aOps_callV (V := decA (canon (decide (n < 0)) n.natAbs s.toNat)) (by rfl) (by rfl) ((c_Normal w₀ _ _ _ _ (decDigits_all _) (Nat.le_trans ((decDigits_lt (show 0 < 9 by omega)).2 (by omega)) (by omega)) s0 (by omega)).val (by rw [natOf_decDigits])) ?_
  refine aOps_store (by rfl) (by rfl) (by repeat (first | exact AHeap.set_same _ _ _ | assumption | refine (AHeap.set_ne _ _ (by first | assumption | exact Ne.symm (by assumption))).trans ?_)) sz27 (by rfl) (by rfl) (by first | exact Nat.le_refl _ | decide | (simp; done) | (simp; omega)) (Nat.zero_le _) (by rfl) ?_
  simp only [AHeap.set_set, AVal.cells]
  simp (decide := true) only [aOps_nil, ev, putD, Slots.put, Slots.get, Slots.keep, if_true, if_false, setAt, List.set_cons_zero, List.set_cons_succ, Nat.zero_add, Nat.reduceAdd, decA]
  repeat (with_reducible refine And.intro ?_ ?_; · first | trivial | omega | (intro hg; simp only [Bool.and_eq_true, Bool.or_eq_true, Bool.not_eq_true', Bool.and_eq_false_iff, Bool.or_eq_false_iff, Bool.not_eq_false', decide_eq_true_eq, decide_eq_false_iff_not, eqNil] at hg; omega) )
  apply hK; clear hK K
  refine awp_ret ?_
  try simp only [thenA_ret, inBlockA_ret]
  refine retA_ret h (by repeat (first | exact Sub.refl _ | assumption | refine Sub.trans_set ?_ (by assumption))) (?_) ?_
  · simp (decide := true) only [resPre, resV_cell, Slots.get, if_true, and_true, resV_cell, pLoad_agg ag27 sz27, rd_set, cellsAt, List.getD_cons_zero, List.getD_cons_succ, Nat.zero_add, Nat.reduceAdd, lv_bool, lv_int, lv_str, allLive, Bool.and_true, cellsAt, List.getD_cons_zero, List.getD_cons_succ, Nat.zero_add, Nat.reduceAdd, lv_bool, lv_int, lv_str, allLive, Bool.and_true]
  
  simp (decide := true) only [Slots.get, if_true, and_true, resOfG_one, resV_cell, pLoad_agg ag27 sz27, rd_set, cellsAt, List.getD_cons_zero, List.getD_cons_succ, Nat.zero_add, Nat.reduceAdd, lv_bool, lv_int, lv_str, allLive, Bool.and_true, cellsAt, List.getD_cons_zero, List.getD_cons_succ, Nat.zero_add, Nat.reduceAdd, lv_bool, lv_int, lv_str, allLive, Bool.and_true, decA]
  all_goals first | rfl | exact ⟨rfl, rfl⟩ | (simp (decide := true) only [if_true, if_false, *]; done) | (trace_state; fail)
end Go.Proofs.YthiiakghjoeikaaGreatDoor

/-
  The examples of the chapter hold.
  Conditions: none.
-/
namespace Go.Proofs.YthiiakghjoeikaaGreatDoor
open Go.AM
open Go.Proofs
open Go.Dec
open Go.Lib (decDigits)
set_option maxRecDepth 100000

def pS (i : Nat) : List UInt8 := [[45, 48, 49, 50, 46, 53, 48], [46, 53], [53, 46], [45]].getD i []
def pD (i : Nat) : D := [⟨true, [49, 50, 53], 1⟩, ⟨false, [53], 1⟩, noD, noD].getD i noD
def pE (i : Nat) : Int := [0, 0, 4, 4].getD i 0
theorem ex_parse (i : Nat) (hi : i < 4) : parseE (pS i) = (pD i, pE i) := by
  match i, hi with
  | 0, _ => exact (show (_ : D × Int) = _ by kernel_rfl)
  | 1, _ => exact (show (_ : D × Int) = _ by kernel_rfl)
  | 2, _ => exact (show (_ : D × Int) = _ by kernel_rfl)
  | 3, _ => exact (show (_ : D × Int) = _ by kernel_rfl)
theorem ex_add : addE (canon false 1 1) (canon false 25 2) = (canon false 35 2, 0) := by kernel_rfl
theorem ex_sub : subE (canon false 1 0) (canon false 1 0) = (canon false 0 0, 0) := by kernel_rfl
theorem ex_mul : mulE (canon true 15 1) (canon false 4 1) = (canon true 6 1, 0) := by kernel_rfl
def exQ : D := ⟨false, List.replicate 30 54, 30⟩
theorem ex_div : divE (canon false 2 0) (canon false 3 0) = (exQ, 0) := by kernel_rfl
theorem ex_div0 : divE (canon false 1 0) (canon false 0 0) = (noD, 7) := by kernel_rfl
theorem ex_pow : powE (canon false 11 1) (canon false 3 0) = (canon false 1331 3, 0) := by kernel_rfl
theorem ex_cut1 : cutE (canon true 1257 2) 1 = (canon true 125 1, false, 0) := by kernel_rfl
theorem ex_cut2 : cutE (canon false 1250 0) (-2) = (canon false 1200 0, false, 0) := by kernel_rfl
theorem ex_text : textE exQ = [48, 46, 54, 54, 54, 54, 54, 54, 54, 54, 54, 54, 54, 54, 54, 54, 54, 54, 54, 54, 54, 54, 54, 54, 54, 54, 54, 54, 54, 54, 54, 54] := by kernel_rfl
theorem canon_lenD (neg : Bool) (n k : Nat) (hn : n < 10 ^ 62) : (canon neg n k).dig.length ≤ 9223372036854775807 := by
  have hs : ∀ (k m : Nat), m < 10 ^ 62 → (strip m k).1 < 10 ^ 62 := fun k => by
    induction k with
    | zero => intro m hm; exact hm
    | succ k ih =>
      intro m hm
      unfold strip
      split
      · exact ih _ (Nat.lt_of_le_of_lt (Nat.div_le_self _ _) hm)
      · exact hm
  unfold canon
  split
  · exact (by decide : ([48] : List UInt8).length ≤ 9223372036854775807)
  · have := (decDigits_lt (n := (strip n k).1) (k := 62) (by omega)).2 (hs k n hn)
    show (decDigits (strip n k).1).length ≤ _
    omega
set_option maxHeartbeats 4000000 in
theorem c_lives12 (w₀ : World) (ht : Tab10 w₀) (he : Errs w₀) (h : AHeap) : ACall Tryz.prog w₀ 13 [] h (fun v h' => v = .bool true ∧ h' = h) := by
  refine acall_intro (n := 182) (rs := [.tmp 0]) Tryz.func13 rfl rfl rfl rfl (Nat.le_of_ble_eq_true rfl) ?_
  simp only [initSlots]
  -- region 0  law.go:143
  refine awp_rseq [] (by rfl) fun K hK => ?_
  simp (decide := true) only [aOps_nil, ev, absV, absS, putD, Slots.put, Slots.keep, if_false, true_and, ↓ap_assign, pop_assign]
  repeat (with_reducible refine And.intro ?_ ?_; · first | trivial | omega | (intro hg; simp only [Bool.and_eq_true, Bool.or_eq_true, Bool.not_eq_true', Bool.and_eq_false_iff, Bool.or_eq_false_iff, Bool.not_eq_false', decide_eq_true_eq, decide_eq_false_iff_not, eqNil] at hg; omega) )
  apply hK; clear hK K
  -- region 1  law.go:144
  refine awp_rseq [1] (by rfl) fun K hK => ?_
  refine aOps_buildSlice (cs := [.str [45, 48, 49, 50, 46, 53, 48], .str [46, 53], .str [53, 46], .str [45]]) (by kernel_rfl) fun k1q0 hk1q0 => ?_
  try have hf_1q0 : h k1q0 = none := by first | assumption | (simp only [AHeap.set_none] at hk1q0; simp only [hk1q0])
  simp (decide := true) only [aOps_nil, ev, putD, Slots.put, Slots.get, Slots.keep, if_true, if_false, true_and, ↓ap_assign, pop_assign]
  repeat (with_reducible refine And.intro ?_ ?_; · first | trivial | omega | (intro hg; simp only [Bool.and_eq_true, Bool.or_eq_true, Bool.not_eq_true', Bool.and_eq_false_iff, Bool.or_eq_false_iff, Bool.not_eq_false', decide_eq_true_eq, decide_eq_false_iff_not, eqNil] at hg; omega) )
  apply hK; clear hK K
  -- region 2  law.go:145
  refine awp_rseq [1, 2] (by rfl) fun K hK => ?_
  simp (decide := true) only [ev, absV, absS, putD, Slots.put, Slots.get, if_false, true_and, ↓ap_build, ↓pop_buildL, bld27_0_1_2, evP, List.map_cons, List.map_nil, bld27_1_2, bld27_]
  repeat (with_reducible refine And.intro ?_ ?_; · first | trivial | omega | (intro hg; simp only [Bool.and_eq_true, Bool.or_eq_true, Bool.not_eq_true', Bool.and_eq_false_iff, Bool.or_eq_false_iff, Bool.not_eq_false', decide_eq_true_eq, decide_eq_false_iff_not, eqNil] at hg; omega) )
  refine aOps_buildSlice (cs := [.bool true, .str [49, 50, 53], .int .i64 1, .bool false, .str [53], .int .i64 1, .bool false, .str [], .int .i64 0, .bool false, .str [], .int .i64 0]) (by kernel_rfl) fun k2q4 hk2q4 => ?_
  have ne_2q4_1q0 : k2q4 ≠ k1q0 := by simp only [AHeap.set_none] at hk2q4; simp only [hk2q4, ne_eq, not_false_eq_true]
  try have hf_2q4 : h k2q4 = none := by first | assumption | (simp only [AHeap.set_none] at hk2q4; simp only [hk2q4])
  simp (decide := true) only [aOps_nil, ev, putD, Slots.put, Slots.get, Slots.keep, if_true, if_false, true_and, ↓ap_assign, pop_assign]
  repeat (with_reducible refine And.intro ?_ ?_; · first | trivial | omega | (intro hg; simp only [Bool.and_eq_true, Bool.or_eq_true, Bool.not_eq_true', Bool.and_eq_false_iff, Bool.or_eq_false_iff, Bool.not_eq_false', decide_eq_true_eq, decide_eq_false_iff_not, eqNil] at hg; omega) )
  apply hK; clear hK K
  refine awp_seq ?_
  -- region 3  law.go:146
  refine awp_rseq [1, 2, 3] (by rfl) fun K hK => ?_
  simp (decide := true) only [aOps_nil, ev, absV, absS, putD, Slots.put, Slots.keep, if_true, if_false, true_and, ↓ap_assign, pop_assign]
  repeat (with_reducible refine And.intro ?_ ?_; · first | trivial | omega | (intro hg; simp only [Bool.and_eq_true, Bool.or_eq_true, Bool.not_eq_true', Bool.and_eq_false_iff, Bool.or_eq_false_iff, Bool.not_eq_false', decide_eq_true_eq, decide_eq_false_iff_not, eqNil] at hg; omega) )
  apply hK; clear hK K
  refine awp_block ?_
  refine awp_loopG [1, 2, 3] (fun i : Nat => [(1, .slice (.own k1q0) 0 4 (.exact 4)), (2, .slice (.own k2q4) 0 4 (.exact 4)), (3, .int .i64 i)]) (fun i : Nat => (h.set k1q0 ⟨[.str [45, 48, 49, 50, 46, 53, 48], .str [46, 53], .str [53, 46], .str [45]], 0⟩).set k2q4 ⟨[.bool true, .str [49, 50, 53], .int .i64 1, .bool false, .str [53], .int .i64 1, .bool false, .str [], .int .i64 0, .bool false, .str [], .int .i64 0], 0⟩) (fun i : Nat => i ≤ 4) (fun i : Nat => 4 - i) 0 (by rfl) (Sub.refl _) (by omega) ?_
  intro i hi
  refine awp_seq ?_
  -- region 4  law.go:146
  refine awp_rseq [1, 2, 3, 31] (by rfl) fun K hK => ?_
  simp (decide := true) only [aOps_nil, ev, absV, absS, putD, Slots.put, Slots.get, Slots.keep, if_true, if_false, true_and, ↓ap_move, pop_move, ↓ap_binOp, pop_binOp, isNilC_int, cond_false, pBinX_int, pI_lss]
  repeat (with_reducible refine And.intro ?_ ?_; · first | trivial | omega | (intro hg; simp only [Bool.and_eq_true, Bool.or_eq_true, Bool.not_eq_true', Bool.and_eq_false_iff, Bool.or_eq_false_iff, Bool.not_eq_false', decide_eq_true_eq, decide_eq_false_iff_not, eqNil] at hg; omega) )
  apply hK; clear hK K
  refine awp_cond (b := _) rfl (fun hb1 => ?_) (fun hb1 => ?_)
  · try simp only [decide_eq_true_eq] at hb1
    have hi4 : i < 4 := by omega
    have hps : ([.str [45, 48, 49, 50, 46, 53, 48], .str [46, 53], .str [53, 46], .str [45]] : List AVal).getD i .dead = .str (pS i) := by
      match i, hi4 with
      | 0, _ => rfl
      | 1, _ => rfl
      | 2, _ => rfl
      | 3, _ => rfl
    have hd0 : ([.bool true, .str [49, 50, 53], .int .i64 1, .bool false, .str [53], .int .i64 1, .bool false, .str [], .int .i64 0, .bool false, .str [], .int .i64 0] : List AVal).getD (i * 3) .dead = .bool (pD i).neg := by
      match i, hi4 with
      | 0, _ => rfl
      | 1, _ => rfl
      | 2, _ => rfl
      | 3, _ => rfl
    have hd1 : ([.bool true, .str [49, 50, 53], .int .i64 1, .bool false, .str [53], .int .i64 1, .bool false, .str [], .int .i64 0, .bool false, .str [], .int .i64 0] : List AVal).getD (i * 3 + 1) .dead = .str (pD i).dig := by
      match i, hi4 with
      | 0, _ => rfl
      | 1, _ => rfl
      | 2, _ => rfl
      | 3, _ => rfl
    have hd2 : ([.bool true, .str [49, 50, 53], .int .i64 1, .bool false, .str [53], .int .i64 1, .bool false, .str [], .int .i64 0, .bool false, .str [], .int .i64 0] : List AVal).getD (i * 3 + 1 + 1) .dead = .int .i64 (pD i).scale := by
      match i, hi4 with
      | 0, _ => rfl
      | 1, _ => rfl
      | 2, _ => rfl
      | 3, _ => rfl
    have hpl : (pS i).length ≤ 100 := by
      match i, hi4 with
      | 0, _ => decide
      | 1, _ => decide
      | 2, _ => decide
      | 3, _ => decide
    have hpe : (i < 2 ∧ pE i = 0) ∨ (2 ≤ i ∧ pE i = 4) := by
      match i, hi4 with
      | 0, _ => exact .inl (by decide)
      | 1, _ => exact .inl (by decide)
      | 2, _ => exact .inr (by decide)
      | 3, _ => exact .inr (by decide)
    refine awp_skip ?_
    change Awp _ _ _ _ _ _ _
    refine awp_seq ?_
    refine awp_block ?_
    -- region 6  law.go:147
    refine awp_rseq [1, 2, 3, 4, 5] (by rfl) fun K hK => ?_
    simp (decide := true) only [ev, putD, Slots.put, Slots.get, if_true, if_false, true_and, ↓ap_move, pop_move, ↓ap_indexAddrL, apL_mk, pIndexAddr_slice Tryz.underlying65 sz9, ↓ap_loadL, pLoad_one ag9, rd_ne', ne_eq, not_false_eq_true, ne_2q4_1q0.symm, rd_any, Nat.zero_add, lv_str, Int.toNat_natCast, Nat.mul_one, hps]
    repeat (with_reducible refine And.intro ?_ ?_; · first | trivial | omega | (intro hg; simp only [Bool.and_eq_true, Bool.or_eq_true, Bool.not_eq_true', Bool.and_eq_false_iff, Bool.or_eq_false_iff, Bool.not_eq_false', decide_eq_true_eq, decide_eq_false_iff_not, eqNil] at hg; omega) )
    refine aOps_callV (V := .tuple [decA (pD i), .int .i64 (pE i)]) (by rfl) (by rfl) ((c_Parse w₀ _ (pS i) (by omega)).val (by rw [ex_parse i hi4])) ?_
    simp (decide := true) only [ev, putD, Slots.put, Slots.get, if_true, if_false, true_and, ↓ap_move, pop_move, ↓ap_extract, pop_extract, pExt_tuple, List.length_cons, List.length_nil, List.getD_cons_zero, List.getD_cons_succ, List.getD_cons_zero, List.getD_cons_succ, Nat.zero_add, Nat.reduceAdd, decA]
    repeat (with_reducible refine And.intro ?_ ?_; · first | trivial | omega | (intro hg; simp only [Bool.and_eq_true, Bool.or_eq_true, Bool.not_eq_true', Bool.and_eq_false_iff, Bool.or_eq_false_iff, Bool.not_eq_false', decide_eq_true_eq, decide_eq_false_iff_not, eqNil] at hg; omega) )
    refine aOps_alloc ze27 (cs := [.bool false, .str [], .int .i64 0]) (by rfl) fun k6q8 hk6q8 => ?_
    have ne_6q8_1q0 : k6q8 ≠ k1q0 := by simp only [AHeap.set_none] at hk6q8; simp only [hk6q8, ne_eq, not_false_eq_true]
    have ne_6q8_2q4 : k6q8 ≠ k2q4 := by simp only [AHeap.set_none] at hk6q8; simp only [hk6q8, ne_eq, not_false_eq_true]
    try have hf_6q8 : h k6q8 = none := by first | assumption | (simp only [AHeap.set_none] at hk6q8; simp only [hk6q8])
    refine aOps_store (by rfl) (by rfl) (by repeat (first | exact AHeap.set_same _ _ _ | assumption | refine (AHeap.set_ne _ _ (by first | assumption | exact Ne.symm (by assumption))).trans ?_)) sz27 (by rfl) (by rfl) (by first | exact Nat.le_refl _ | decide | (simp; done) | (simp; omega)) (Nat.zero_le _) (by rfl) ?_
    simp only [AHeap.set_set, AVal.cells]
    simp (decide := true) only [aOps_nil, ev, putD, Slots.put, Slots.get, Slots.keep, if_true, if_false, true_and, ↓ap_assign, pop_assign, setAt, List.set_cons_zero, List.set_cons_succ, Nat.zero_add, Nat.reduceAdd]
    repeat (with_reducible refine And.intro ?_ ?_; · first | trivial | omega | (intro hg; simp only [Bool.and_eq_true, Bool.or_eq_true, Bool.not_eq_true', Bool.and_eq_false_iff, Bool.or_eq_false_iff, Bool.not_eq_false', decide_eq_true_eq, decide_eq_false_iff_not, eqNil] at hg; omega) )
    apply hK; clear hK K
    -- region 7  law.go:148
    refine awp_dseq_all [1, 2, 3, 62] mixed (by kernel_rfl) (by rfl) (by rfl) fun K hK => ?_
    simp (decide := true) only [aOps_nil, ev, absV, absS, putD, Slots.put, Slots.get, Slots.keep, if_true, if_false, true_and, ↓ap_loadL, apL_mk, pLoad_agg ag27 sz27, ↓ap_move, pop_move, ↓ap_indexAddrL, pIndexAddr_slice Tryz.underlying66 sz27, ↓ap_binOp, pop_binOp, isNilC_tmp, cond_false, pBinX_agg, ne27, ↓ag_move, agP, agQ_some, nthDst, gKnown_bool, gKnown_cond, guardB_cond, guardB_bool_true, guardB_bool_false, cv_cv, implies_true, Bool.not_not, decide_true, Bool.and_true, ↓ag_binOp, isNilC_int, cv_binl, cv_binr, cp_binl, cp_binr, pBinX_int, pI_eql, pI_lss, pBinX_bne, Tryz.underlying4, ↓ap_pick, pop_pick, pPick_bool, pickV_cond_r, pickV_cond_rn, cp_nest1, pickV_and, pickV_or, pI_gtr, pI_neq, ↓ag_pick, cv_pick, cp_pick, rd_ne', ne_eq, not_false_eq_true, ne_6q8_2q4.symm, rd_any, cellsAt, List.getD_cons_zero, List.getD_cons_succ, Nat.zero_add, Nat.reduceAdd, lv_bool, lv_int, lv_str, allLive, Bool.and_true, Int.toNat_natCast, hd0, hd1, hd2]
    repeat (with_reducible refine And.intro ?_ ?_; · first | trivial | omega | (intro hg; simp only [Bool.and_eq_true, Bool.or_eq_true, Bool.not_eq_true', Bool.and_eq_false_iff, Bool.or_eq_false_iff, Bool.not_eq_false', decide_eq_true_eq, decide_eq_false_iff_not, eqNil] at hg; omega) )
    apply hK; clear hK K
    refine awp_cond (b := _) rfl (fun hb2 => ?_) (fun hb2 => ?_)
    · try simp only [decide_eq_true_eq, decide_eq_false_iff_not, Bool.not_eq_true', Bool.and_eq_true, Bool.or_eq_true] at hb2
      exfalso
      rcases hpe with ⟨h1, h2⟩ | ⟨h1, h2⟩
      · rw [h2] at hb2; simp at hb2; omega
      · rw [h2] at hb2; simp at hb2; omega
    · try simp only [decide_eq_true_eq, decide_eq_false_iff_not, Bool.not_eq_false', Bool.and_eq_false_iff, Bool.or_eq_false_iff] at hb2
      refine awp_skip ?_
      change Awp _ _ _ _ _ _ _
      -- region 5  law.go:146
      refine awp_r [1, 2, 3] (by rfl) ?_
      simp (decide := true) only [aOps_nil, ev, absV, absS, putD, Slots.put, Slots.get, Slots.keep, if_true, if_false, true_and, ↓ap_move, pop_move, ↓ap_binOp, pop_binOp, isNilC_int, cond_false, pBinX_int, pI_add, ↓ap_assign, pop_assign]
      try simp (disch := omega) only [wrap_i64]
      repeat (with_reducible refine And.intro ?_ ?_; · first | trivial | omega | (intro hg; simp only [Bool.and_eq_true, Bool.or_eq_true, Bool.not_eq_true', Bool.and_eq_false_iff, Bool.or_eq_false_iff, Bool.not_eq_false', decide_eq_true_eq, decide_eq_false_iff_not, eqNil] at hg; omega) )
      try simp only [thenA_normal]
      refine ⟨i + 1, rfl, (by repeat (first | exact Sub.refl _ | refine Sub.trans_set ?_ (by assumption))), by omega, by omega⟩
  · try simp only [decide_eq_false_iff_not] at hb1
    refine awp_exit ?_
    change Awp _ _ _ _ _ _ _
    -- region 9  law.go:152
    refine awp_rseq [6, 7] (by rfl) fun K hK => ?_
    refine aOps_callV (V := decA (canon false 1 1)) (by rfl) (by rfl) ((c_of12 w₀ ht _ 1 1 (by omega) (by omega) (by omega) (by omega)).val rfl) ?_
    refine aOps_callV (V := decA (canon false 25 2)) (by rfl) (by rfl) ((c_of12 w₀ ht _ 25 2 (by omega) (by omega) (by omega) (by omega)).val rfl) ?_
    refine aOps_callV (V := .tuple [decA (canon false 35 2), .int .i64 0]) (by rfl) (by rfl) ((c_Add w₀ _ (canon false 1 1) (canon false 25 2) (canon_lenD _ _ _ (by decide +kernel)) (canon_lenD _ _ _ (by decide +kernel))).val (by rw [ex_add])) ?_
    simp (decide := true) only [ev, putD, Slots.put, Slots.get, if_true, if_false, true_and, ↓ap_move, pop_move, ↓ap_extract, pop_extract, pExt_tuple, List.getD_cons_zero, List.getD_cons_succ, List.getD_cons_zero, List.getD_cons_succ, decA]
    repeat (with_reducible refine And.intro ?_ ?_; · first | trivial | omega | (intro hg; simp only [Bool.and_eq_true, Bool.or_eq_true, Bool.not_eq_true', Bool.and_eq_false_iff, Bool.or_eq_false_iff, Bool.not_eq_false', decide_eq_true_eq, decide_eq_false_iff_not, eqNil] at hg; omega) )
    refine aOps_alloc ze27 (cs := [.bool false, .str [], .int .i64 0]) (by rfl) fun k9q6 hk9q6 => ?_
    have ne_9q6_1q0 : k9q6 ≠ k1q0 := by simp only [AHeap.set_none] at hk9q6; simp only [hk9q6, ne_eq, not_false_eq_true]
    have ne_9q6_2q4 : k9q6 ≠ k2q4 := by simp only [AHeap.set_none] at hk9q6; simp only [hk9q6, ne_eq, not_false_eq_true]
    try have hf_9q6 : h k9q6 = none := by first | assumption | (simp only [AHeap.set_none] at hk9q6; simp only [hk9q6])
    refine aOps_store (by rfl) (by rfl) (by repeat (first | exact AHeap.set_same _ _ _ | assumption | refine (AHeap.set_ne _ _ (by first | assumption | exact Ne.symm (by assumption))).trans ?_)) sz27 (by rfl) (by rfl) (by first | exact Nat.le_refl _ | decide | (simp; done) | (simp; omega)) (Nat.zero_le _) (by rfl) ?_
    simp only [AHeap.set_set, AVal.cells]
    simp (decide := true) only [aOps_nil, ev, putD, Slots.put, Slots.get, Slots.keep, if_true, if_false, true_and, ↓ap_assign, pop_assign, setAt, List.set_cons_zero, List.set_cons_succ, Nat.zero_add, Nat.reduceAdd]
    repeat (with_reducible refine And.intro ?_ ?_; · first | trivial | omega | (intro hg; simp only [Bool.and_eq_true, Bool.or_eq_true, Bool.not_eq_true', Bool.and_eq_false_iff, Bool.or_eq_false_iff, Bool.not_eq_false', decide_eq_true_eq, decide_eq_false_iff_not, eqNil] at hg; omega) )
    apply hK; clear hK K
    -- region 10  law.go:153
    refine awp_rseq [6, 7, 8, 9] (by rfl) fun K hK => ?_
    refine aOps_callV (V := decA (canon false 1 0)) (by rfl) (by rfl) ((c_of12 w₀ ht _ 1 0 (by omega) (by omega) (by omega) (by omega)).val rfl) ?_
    refine aOps_callV (V := decA (canon false 1 0)) (by rfl) (by rfl) ((c_of12 w₀ ht _ 1 0 (by omega) (by omega) (by omega) (by omega)).val rfl) ?_
    refine aOps_callV (V := .tuple [decA (canon false 0 0), .int .i64 0]) (by rfl) (by rfl) ((c_Sub w₀ _ (canon false 1 0) (canon false 1 0) (canon_lenD _ _ _ (by decide +kernel)) (canon_lenD _ _ _ (by decide +kernel))).val (by rw [ex_sub])) ?_
    simp (decide := true) only [ev, putD, Slots.put, Slots.get, if_true, if_false, true_and, ↓ap_move, pop_move, ↓ap_extract, pop_extract, pExt_tuple, List.getD_cons_zero, List.getD_cons_succ, List.getD_cons_zero, List.getD_cons_succ, decA]
    repeat (with_reducible refine And.intro ?_ ?_; · first | trivial | omega | (intro hg; simp only [Bool.and_eq_true, Bool.or_eq_true, Bool.not_eq_true', Bool.and_eq_false_iff, Bool.or_eq_false_iff, Bool.not_eq_false', decide_eq_true_eq, decide_eq_false_iff_not, eqNil] at hg; omega) )
    refine aOps_alloc ze27 (cs := [.bool false, .str [], .int .i64 0]) (by rfl) fun k10q6 hk10q6 => ?_
    have ne_10q6_1q0 : k10q6 ≠ k1q0 := by simp only [AHeap.set_none] at hk10q6; simp only [hk10q6, ne_eq, not_false_eq_true]
    have ne_10q6_2q4 : k10q6 ≠ k2q4 := by simp only [AHeap.set_none] at hk10q6; simp only [hk10q6, ne_eq, not_false_eq_true]
    have ne_10q6_9q6 : k10q6 ≠ k9q6 := by simp only [AHeap.set_none] at hk10q6; simp only [hk10q6, ne_eq, not_false_eq_true]
    try have hf_10q6 : h k10q6 = none := by first | assumption | (simp only [AHeap.set_none] at hk10q6; simp only [hk10q6])
    refine aOps_store (by rfl) (by rfl) (by repeat (first | exact AHeap.set_same _ _ _ | assumption | refine (AHeap.set_ne _ _ (by first | assumption | exact Ne.symm (by assumption))).trans ?_)) sz27 (by rfl) (by rfl) (by first | exact Nat.le_refl _ | decide | (simp; done) | (simp; omega)) (Nat.zero_le _) (by rfl) ?_
    simp only [AHeap.set_set, AVal.cells]
    simp (decide := true) only [aOps_nil, ev, putD, Slots.put, Slots.get, Slots.keep, if_true, if_false, true_and, ↓ap_assign, pop_assign, setAt, List.set_cons_zero, List.set_cons_succ, Nat.zero_add, Nat.reduceAdd]
    repeat (with_reducible refine And.intro ?_ ?_; · first | trivial | omega | (intro hg; simp only [Bool.and_eq_true, Bool.or_eq_true, Bool.not_eq_true', Bool.and_eq_false_iff, Bool.or_eq_false_iff, Bool.not_eq_false', decide_eq_true_eq, decide_eq_false_iff_not, eqNil] at hg; omega) )
    apply hK; clear hK K
    -- region 11  law.go:154
    refine awp_rseq [6, 7, 8, 9, 10, 11] (by rfl) fun K hK => ?_
    refine aOps_callV (V := decA (canon true 15 1)) (by rfl) (by rfl) ((c_of12 w₀ ht _ (-15) 1 (by omega) (by omega) (by omega) (by omega)).val rfl) ?_
    refine aOps_callV (V := decA (canon false 4 1)) (by rfl) (by rfl) ((c_of12 w₀ ht _ 4 1 (by omega) (by omega) (by omega) (by omega)).val rfl) ?_
    refine aOps_callV (V := .tuple [decA (canon true 6 1), .int .i64 0]) (by rfl) (by rfl) ((c_Mul w₀ _ (canon true 15 1) (canon false 4 1) (canon_lenD _ _ _ (by decide +kernel)) (canon_lenD _ _ _ (by decide +kernel))).val (by rw [ex_mul])) ?_
    simp (decide := true) only [ev, putD, Slots.put, Slots.get, if_true, if_false, true_and, ↓ap_move, pop_move, ↓ap_extract, pop_extract, pExt_tuple, List.getD_cons_zero, List.getD_cons_succ, List.getD_cons_zero, List.getD_cons_succ, decA]
    repeat (with_reducible refine And.intro ?_ ?_; · first | trivial | omega | (intro hg; simp only [Bool.and_eq_true, Bool.or_eq_true, Bool.not_eq_true', Bool.and_eq_false_iff, Bool.or_eq_false_iff, Bool.not_eq_false', decide_eq_true_eq, decide_eq_false_iff_not, eqNil] at hg; omega) )
    refine aOps_alloc ze27 (cs := [.bool false, .str [], .int .i64 0]) (by rfl) fun k11q6 hk11q6 => ?_
    have ne_11q6_1q0 : k11q6 ≠ k1q0 := by simp only [AHeap.set_none] at hk11q6; simp only [hk11q6, ne_eq, not_false_eq_true]
    have ne_11q6_2q4 : k11q6 ≠ k2q4 := by simp only [AHeap.set_none] at hk11q6; simp only [hk11q6, ne_eq, not_false_eq_true]
    have ne_11q6_9q6 : k11q6 ≠ k9q6 := by simp only [AHeap.set_none] at hk11q6; simp only [hk11q6, ne_eq, not_false_eq_true]
    have ne_11q6_10q6 : k11q6 ≠ k10q6 := by simp only [AHeap.set_none] at hk11q6; simp only [hk11q6, ne_eq, not_false_eq_true]
    try have hf_11q6 : h k11q6 = none := by first | assumption | (simp only [AHeap.set_none] at hk11q6; simp only [hk11q6])
    refine aOps_store (by rfl) (by rfl) (by repeat (first | exact AHeap.set_same _ _ _ | assumption | refine (AHeap.set_ne _ _ (by first | assumption | exact Ne.symm (by assumption))).trans ?_)) sz27 (by rfl) (by rfl) (by first | exact Nat.le_refl _ | decide | (simp; done) | (simp; omega)) (Nat.zero_le _) (by rfl) ?_
    simp only [AHeap.set_set, AVal.cells]
    simp (decide := true) only [aOps_nil, ev, putD, Slots.put, Slots.get, Slots.keep, if_true, if_false, true_and, ↓ap_assign, pop_assign, setAt, List.set_cons_zero, List.set_cons_succ, Nat.zero_add, Nat.reduceAdd]
    repeat (with_reducible refine And.intro ?_ ?_; · first | trivial | omega | (intro hg; simp only [Bool.and_eq_true, Bool.or_eq_true, Bool.not_eq_true', Bool.and_eq_false_iff, Bool.or_eq_false_iff, Bool.not_eq_false', decide_eq_true_eq, decide_eq_false_iff_not, eqNil] at hg; omega) )
    apply hK; clear hK K
    -- region 12  law.go:155
    refine awp_rseq [6, 7, 8, 9, 10, 11, 12, 13] (by rfl) fun K hK => ?_
    refine aOps_callV (V := decA (canon false 2 0)) (by rfl) (by rfl) ((c_of12 w₀ ht _ 2 0 (by omega) (by omega) (by omega) (by omega)).val rfl) ?_
    refine aOps_callV (V := decA (canon false 3 0)) (by rfl) (by rfl) ((c_of12 w₀ ht _ 3 0 (by omega) (by omega) (by omega) (by omega)).val rfl) ?_
    refine aOps_callV (V := .tuple [decA exQ, .int .i64 0]) (by rfl) (by rfl) ((c_Div w₀ _ (canon false 2 0) (canon false 3 0) (canon_lenD _ _ _ (by decide +kernel)) (canon_lenD _ _ _ (by decide +kernel))).val (by rw [ex_div])) ?_
    simp (decide := true) only [ev, putD, Slots.put, Slots.get, if_true, if_false, true_and, ↓ap_move, pop_move, ↓ap_extract, pop_extract, pExt_tuple, List.getD_cons_zero, List.getD_cons_succ, List.getD_cons_zero, List.getD_cons_succ, decA]
    repeat (with_reducible refine And.intro ?_ ?_; · first | trivial | omega | (intro hg; simp only [Bool.and_eq_true, Bool.or_eq_true, Bool.not_eq_true', Bool.and_eq_false_iff, Bool.or_eq_false_iff, Bool.not_eq_false', decide_eq_true_eq, decide_eq_false_iff_not, eqNil] at hg; omega) )
    refine aOps_alloc ze27 (cs := [.bool false, .str [], .int .i64 0]) (by rfl) fun k12q6 hk12q6 => ?_
    have ne_12q6_1q0 : k12q6 ≠ k1q0 := by simp only [AHeap.set_none] at hk12q6; simp only [hk12q6, ne_eq, not_false_eq_true]
    have ne_12q6_2q4 : k12q6 ≠ k2q4 := by simp only [AHeap.set_none] at hk12q6; simp only [hk12q6, ne_eq, not_false_eq_true]
    have ne_12q6_9q6 : k12q6 ≠ k9q6 := by simp only [AHeap.set_none] at hk12q6; simp only [hk12q6, ne_eq, not_false_eq_true]
    have ne_12q6_10q6 : k12q6 ≠ k10q6 := by simp only [AHeap.set_none] at hk12q6; simp only [hk12q6, ne_eq, not_false_eq_true]
    have ne_12q6_11q6 : k12q6 ≠ k11q6 := by simp only [AHeap.set_none] at hk12q6; simp only [hk12q6, ne_eq, not_false_eq_true]
    try have hf_12q6 : h k12q6 = none := by first | assumption | (simp only [AHeap.set_none] at hk12q6; simp only [hk12q6])
    refine aOps_store (by rfl) (by rfl) (by repeat (first | exact AHeap.set_same _ _ _ | assumption | refine (AHeap.set_ne _ _ (by first | assumption | exact Ne.symm (by assumption))).trans ?_)) sz27 (by rfl) (by rfl) (by first | exact Nat.le_refl _ | decide | (simp; done) | (simp; omega)) (Nat.zero_le _) (by rfl) ?_
    simp only [AHeap.set_set, AVal.cells]
    simp (decide := true) only [aOps_nil, ev, putD, Slots.put, Slots.get, Slots.keep, if_true, if_false, true_and, ↓ap_assign, pop_assign, setAt, List.set_cons_zero, List.set_cons_succ, Nat.zero_add, Nat.reduceAdd]
    repeat (with_reducible refine And.intro ?_ ?_; · first | trivial | omega | (intro hg; simp only [Bool.and_eq_true, Bool.or_eq_true, Bool.not_eq_true', Bool.and_eq_false_iff, Bool.or_eq_false_iff, Bool.not_eq_false', decide_eq_true_eq, decide_eq_false_iff_not, eqNil] at hg; omega) )
    apply hK; clear hK K
    -- region 13  law.go:156
    refine awp_rseq [6, 7, 8, 9, 10, 11, 12, 13, 15] (by rfl) fun K hK => ?_
    refine aOps_callV (V := decA (canon false 1 0)) (by rfl) (by rfl) ((c_of12 w₀ ht _ 1 0 (by omega) (by omega) (by omega) (by omega)).val rfl) ?_
    refine aOps_callV (V := decA (canon false 0 0)) (by rfl) (by rfl) ((c_of12 w₀ ht _ 0 0 (by omega) (by omega) (by omega) (by omega)).val rfl) ?_
    refine aOps_callV (V := .tuple [decA noD, .int .i64 7]) (by rfl) (by rfl) ((c_Div w₀ _ (canon false 1 0) (canon false 0 0) (canon_lenD _ _ _ (by decide +kernel)) (canon_lenD _ _ _ (by decide +kernel))).val (by rw [ex_div0])) ?_
    simp (decide := true) only [ev, putD, Slots.put, Slots.get, if_true, if_false, true_and, ↓ap_move, pop_move, ↓ap_extract, pop_extract, pExt_tuple, List.getD_cons_zero, List.getD_cons_succ, List.getD_cons_zero, List.getD_cons_succ, decA]
    repeat (with_reducible refine And.intro ?_ ?_; · first | trivial | omega | (intro hg; simp only [Bool.and_eq_true, Bool.or_eq_true, Bool.not_eq_true', Bool.and_eq_false_iff, Bool.or_eq_false_iff, Bool.not_eq_false', decide_eq_true_eq, decide_eq_false_iff_not, eqNil] at hg; omega) )
    refine aOps_alloc ze27 (cs := [.bool false, .str [], .int .i64 0]) (by rfl) fun k13q6 hk13q6 => ?_
    have ne_13q6_1q0 : k13q6 ≠ k1q0 := by simp only [AHeap.set_none] at hk13q6; simp only [hk13q6, ne_eq, not_false_eq_true]
    have ne_13q6_2q4 : k13q6 ≠ k2q4 := by simp only [AHeap.set_none] at hk13q6; simp only [hk13q6, ne_eq, not_false_eq_true]
    have ne_13q6_9q6 : k13q6 ≠ k9q6 := by simp only [AHeap.set_none] at hk13q6; simp only [hk13q6, ne_eq, not_false_eq_true]
    have ne_13q6_10q6 : k13q6 ≠ k10q6 := by simp only [AHeap.set_none] at hk13q6; simp only [hk13q6, ne_eq, not_false_eq_true]
    have ne_13q6_11q6 : k13q6 ≠ k11q6 := by simp only [AHeap.set_none] at hk13q6; simp only [hk13q6, ne_eq, not_false_eq_true]
    have ne_13q6_12q6 : k13q6 ≠ k12q6 := by simp only [AHeap.set_none] at hk13q6; simp only [hk13q6, ne_eq, not_false_eq_true]
    try have hf_13q6 : h k13q6 = none := by first | assumption | (simp only [AHeap.set_none] at hk13q6; simp only [hk13q6])
    refine aOps_store (by rfl) (by rfl) (by repeat (first | exact AHeap.set_same _ _ _ | assumption | refine (AHeap.set_ne _ _ (by first | assumption | exact Ne.symm (by assumption))).trans ?_)) sz27 (by rfl) (by rfl) (by first | exact Nat.le_refl _ | decide | (simp; done) | (simp; omega)) (Nat.zero_le _) (by rfl) ?_
    simp only [AHeap.set_set, AVal.cells]
    simp (decide := true) only [aOps_nil, ev, putD, Slots.put, Slots.get, Slots.keep, if_true, if_false, true_and, ↓ap_assign, pop_assign, setAt, List.set_cons_zero, List.set_cons_succ, Nat.zero_add, Nat.reduceAdd]
    repeat (with_reducible refine And.intro ?_ ?_; · first | trivial | omega | (intro hg; simp only [Bool.and_eq_true, Bool.or_eq_true, Bool.not_eq_true', Bool.and_eq_false_iff, Bool.or_eq_false_iff, Bool.not_eq_false', decide_eq_true_eq, decide_eq_false_iff_not, eqNil] at hg; omega) )
    apply hK; clear hK K
    -- region 14  law.go:157
    refine awp_rseq [6, 7, 8, 9, 10, 11, 12, 13, 15, 16, 17] (by rfl) fun K hK => ?_
    refine aOps_callV (V := decA (canon false 11 1)) (by rfl) (by rfl) ((c_of12 w₀ ht _ 11 1 (by omega) (by omega) (by omega) (by omega)).val rfl) ?_
    refine aOps_callV (V := decA (canon false 3 0)) (by rfl) (by rfl) ((c_of12 w₀ ht _ 3 0 (by omega) (by omega) (by omega) (by omega)).val rfl) ?_
    refine aOps_callV (V := .tuple [decA (canon false 1331 3), .int .i64 0]) (by rfl) (by rfl) ((c_Pow w₀ he _ (canon false 11 1) (canon false 3 0) (canon_lenD _ _ _ (by decide +kernel)) (canon_lenD _ _ _ (by decide +kernel))).val (by rw [ex_pow])) ?_
    simp (decide := true) only [ev, putD, Slots.put, Slots.get, if_true, if_false, true_and, ↓ap_move, pop_move, ↓ap_extract, pop_extract, pExt_tuple, List.getD_cons_zero, List.getD_cons_succ, List.getD_cons_zero, List.getD_cons_succ, decA]
    repeat (with_reducible refine And.intro ?_ ?_; · first | trivial | omega | (intro hg; simp only [Bool.and_eq_true, Bool.or_eq_true, Bool.not_eq_true', Bool.and_eq_false_iff, Bool.or_eq_false_iff, Bool.not_eq_false', decide_eq_true_eq, decide_eq_false_iff_not, eqNil] at hg; omega) )
    refine aOps_alloc ze27 (cs := [.bool false, .str [], .int .i64 0]) (by rfl) fun k14q6 hk14q6 => ?_
    have ne_14q6_1q0 : k14q6 ≠ k1q0 := by simp only [AHeap.set_none] at hk14q6; simp only [hk14q6, ne_eq, not_false_eq_true]
    have ne_14q6_2q4 : k14q6 ≠ k2q4 := by simp only [AHeap.set_none] at hk14q6; simp only [hk14q6, ne_eq, not_false_eq_true]
    have ne_14q6_9q6 : k14q6 ≠ k9q6 := by simp only [AHeap.set_none] at hk14q6; simp only [hk14q6, ne_eq, not_false_eq_true]
    have ne_14q6_10q6 : k14q6 ≠ k10q6 := by simp only [AHeap.set_none] at hk14q6; simp only [hk14q6, ne_eq, not_false_eq_true]
    have ne_14q6_11q6 : k14q6 ≠ k11q6 := by simp only [AHeap.set_none] at hk14q6; simp only [hk14q6, ne_eq, not_false_eq_true]
    have ne_14q6_12q6 : k14q6 ≠ k12q6 := by simp only [AHeap.set_none] at hk14q6; simp only [hk14q6, ne_eq, not_false_eq_true]
    have ne_14q6_13q6 : k14q6 ≠ k13q6 := by simp only [AHeap.set_none] at hk14q6; simp only [hk14q6, ne_eq, not_false_eq_true]
    try have hf_14q6 : h k14q6 = none := by first | assumption | (simp only [AHeap.set_none] at hk14q6; simp only [hk14q6])
    refine aOps_store (by rfl) (by rfl) (by repeat (first | exact AHeap.set_same _ _ _ | assumption | refine (AHeap.set_ne _ _ (by first | assumption | exact Ne.symm (by assumption))).trans ?_)) sz27 (by rfl) (by rfl) (by first | exact Nat.le_refl _ | decide | (simp; done) | (simp; omega)) (Nat.zero_le _) (by rfl) ?_
    simp only [AHeap.set_set, AVal.cells]
    simp (decide := true) only [aOps_nil, ev, putD, Slots.put, Slots.get, Slots.keep, if_true, if_false, true_and, ↓ap_assign, pop_assign, setAt, List.set_cons_zero, List.set_cons_succ, Nat.zero_add, Nat.reduceAdd]
    repeat (with_reducible refine And.intro ?_ ?_; · first | trivial | omega | (intro hg; simp only [Bool.and_eq_true, Bool.or_eq_true, Bool.not_eq_true', Bool.and_eq_false_iff, Bool.or_eq_false_iff, Bool.not_eq_false', decide_eq_true_eq, decide_eq_false_iff_not, eqNil] at hg; omega) )
    apply hK; clear hK K
    -- region 15  law.go:158
    refine awp_rseq [6, 7, 8, 9, 10, 11, 12, 13, 15, 16, 17, 18, 19, 20] (by rfl) fun K hK => ?_
    refine aOps_callV (V := decA (canon true 1257 2)) (by rfl) (by rfl) ((c_of12 w₀ ht _ (-1257) 2 (by omega) (by omega) (by omega) (by omega)).val rfl) ?_
    refine aOps_callV (V := .tuple [decA (canon true 125 1), .bool false, .int .i64 0]) (by rfl) (by rfl) ((c_Cut w₀ _ (canon true 1257 2) 1 (canon_lenD _ _ _ (by decide +kernel)) (by omega) (by omega)).val (by rw [ex_cut1])) ?_
    simp (decide := true) only [ev, putD, Slots.put, Slots.get, if_true, if_false, true_and, ↓ap_move, pop_move, ↓ap_extract, pop_extract, pExt_tuple, List.getD_cons_zero, List.getD_cons_succ, List.getD_cons_zero, List.getD_cons_succ, decA]
    repeat (with_reducible refine And.intro ?_ ?_; · first | trivial | omega | (intro hg; simp only [Bool.and_eq_true, Bool.or_eq_true, Bool.not_eq_true', Bool.and_eq_false_iff, Bool.or_eq_false_iff, Bool.not_eq_false', decide_eq_true_eq, decide_eq_false_iff_not, eqNil] at hg; omega) )
    refine aOps_alloc ze27 (cs := [.bool false, .str [], .int .i64 0]) (by rfl) fun k15q6 hk15q6 => ?_
    have ne_15q6_1q0 : k15q6 ≠ k1q0 := by simp only [AHeap.set_none] at hk15q6; simp only [hk15q6, ne_eq, not_false_eq_true]
    have ne_15q6_2q4 : k15q6 ≠ k2q4 := by simp only [AHeap.set_none] at hk15q6; simp only [hk15q6, ne_eq, not_false_eq_true]
    have ne_15q6_9q6 : k15q6 ≠ k9q6 := by simp only [AHeap.set_none] at hk15q6; simp only [hk15q6, ne_eq, not_false_eq_true]
    have ne_15q6_10q6 : k15q6 ≠ k10q6 := by simp only [AHeap.set_none] at hk15q6; simp only [hk15q6, ne_eq, not_false_eq_true]
    have ne_15q6_11q6 : k15q6 ≠ k11q6 := by simp only [AHeap.set_none] at hk15q6; simp only [hk15q6, ne_eq, not_false_eq_true]
    have ne_15q6_12q6 : k15q6 ≠ k12q6 := by simp only [AHeap.set_none] at hk15q6; simp only [hk15q6, ne_eq, not_false_eq_true]
    have ne_15q6_13q6 : k15q6 ≠ k13q6 := by simp only [AHeap.set_none] at hk15q6; simp only [hk15q6, ne_eq, not_false_eq_true]
    have ne_15q6_14q6 : k15q6 ≠ k14q6 := by simp only [AHeap.set_none] at hk15q6; simp only [hk15q6, ne_eq, not_false_eq_true]
    try have hf_15q6 : h k15q6 = none := by first | assumption | (simp only [AHeap.set_none] at hk15q6; simp only [hk15q6])
    refine aOps_store (by rfl) (by rfl) (by repeat (first | exact AHeap.set_same _ _ _ | assumption | refine (AHeap.set_ne _ _ (by first | assumption | exact Ne.symm (by assumption))).trans ?_)) sz27 (by rfl) (by rfl) (by first | exact Nat.le_refl _ | decide | (simp; done) | (simp; omega)) (Nat.zero_le _) (by rfl) ?_
    simp only [AHeap.set_set, AVal.cells]
    simp (decide := true) only [aOps_nil, ev, putD, Slots.put, Slots.get, Slots.keep, if_true, if_false, true_and, ↓ap_assign, pop_assign, setAt, List.set_cons_zero, List.set_cons_succ, Nat.zero_add, Nat.reduceAdd]
    repeat (with_reducible refine And.intro ?_ ?_; · first | trivial | omega | (intro hg; simp only [Bool.and_eq_true, Bool.or_eq_true, Bool.not_eq_true', Bool.and_eq_false_iff, Bool.or_eq_false_iff, Bool.not_eq_false', decide_eq_true_eq, decide_eq_false_iff_not, eqNil] at hg; omega) )
    apply hK; clear hK K
    -- region 16  law.go:159
    refine awp_rseq [6, 7, 8, 9, 10, 11, 12, 13, 15, 16, 17, 18, 19, 20, 21, 22, 23] (by rfl) fun K hK => ?_
    refine aOps_callV (V := decA (canon false 1250 0)) (by rfl) (by rfl) ((c_of12 w₀ ht _ 1250 0 (by omega) (by omega) (by omega) (by omega)).val rfl) ?_
    refine aOps_callV (V := .tuple [decA (canon false 1200 0), .bool false, .int .i64 0]) (by rfl) (by rfl) ((c_Cut w₀ _ (canon false 1250 0) (-2) (canon_lenD _ _ _ (by decide +kernel)) (by omega) (by omega)).val (by rw [ex_cut2])) ?_
    simp (decide := true) only [ev, putD, Slots.put, Slots.get, if_true, if_false, true_and, ↓ap_move, pop_move, ↓ap_extract, pop_extract, pExt_tuple, List.getD_cons_zero, List.getD_cons_succ, List.getD_cons_zero, List.getD_cons_succ, decA]
    repeat (with_reducible refine And.intro ?_ ?_; · first | trivial | omega | (intro hg; simp only [Bool.and_eq_true, Bool.or_eq_true, Bool.not_eq_true', Bool.and_eq_false_iff, Bool.or_eq_false_iff, Bool.not_eq_false', decide_eq_true_eq, decide_eq_false_iff_not, eqNil] at hg; omega) )
    refine aOps_alloc ze27 (cs := [.bool false, .str [], .int .i64 0]) (by rfl) fun k16q6 hk16q6 => ?_
    have ne_16q6_1q0 : k16q6 ≠ k1q0 := by simp only [AHeap.set_none] at hk16q6; simp only [hk16q6, ne_eq, not_false_eq_true]
    have ne_16q6_2q4 : k16q6 ≠ k2q4 := by simp only [AHeap.set_none] at hk16q6; simp only [hk16q6, ne_eq, not_false_eq_true]
    have ne_16q6_9q6 : k16q6 ≠ k9q6 := by simp only [AHeap.set_none] at hk16q6; simp only [hk16q6, ne_eq, not_false_eq_true]
    have ne_16q6_10q6 : k16q6 ≠ k10q6 := by simp only [AHeap.set_none] at hk16q6; simp only [hk16q6, ne_eq, not_false_eq_true]
    have ne_16q6_11q6 : k16q6 ≠ k11q6 := by simp only [AHeap.set_none] at hk16q6; simp only [hk16q6, ne_eq, not_false_eq_true]
    have ne_16q6_12q6 : k16q6 ≠ k12q6 := by simp only [AHeap.set_none] at hk16q6; simp only [hk16q6, ne_eq, not_false_eq_true]
    have ne_16q6_13q6 : k16q6 ≠ k13q6 := by simp only [AHeap.set_none] at hk16q6; simp only [hk16q6, ne_eq, not_false_eq_true]
    have ne_16q6_14q6 : k16q6 ≠ k14q6 := by simp only [AHeap.set_none] at hk16q6; simp only [hk16q6, ne_eq, not_false_eq_true]
    have ne_16q6_15q6 : k16q6 ≠ k15q6 := by simp only [AHeap.set_none] at hk16q6; simp only [hk16q6, ne_eq, not_false_eq_true]
    try have hf_16q6 : h k16q6 = none := by first | assumption | (simp only [AHeap.set_none] at hk16q6; simp only [hk16q6])
    refine aOps_store (by rfl) (by rfl) (by repeat (first | exact AHeap.set_same _ _ _ | assumption | refine (AHeap.set_ne _ _ (by first | assumption | exact Ne.symm (by assumption))).trans ?_)) sz27 (by rfl) (by rfl) (by first | exact Nat.le_refl _ | decide | (simp; done) | (simp; omega)) (Nat.zero_le _) (by rfl) ?_
    simp only [AHeap.set_set, AVal.cells]
    simp (decide := true) only [aOps_nil, ev, putD, Slots.put, Slots.get, Slots.keep, if_true, if_false, true_and, ↓ap_assign, pop_assign, setAt, List.set_cons_zero, List.set_cons_succ, Nat.zero_add, Nat.reduceAdd]
    repeat (with_reducible refine And.intro ?_ ?_; · first | trivial | omega | (intro hg; simp only [Bool.and_eq_true, Bool.or_eq_true, Bool.not_eq_true', Bool.and_eq_false_iff, Bool.or_eq_false_iff, Bool.not_eq_false', decide_eq_true_eq, decide_eq_false_iff_not, eqNil] at hg; omega) )
    apply hK; clear hK K
    refine awp_seq ?_
    -- region 17  law.go:160
    refine awp_rseq [6, 8, 10, 12, 16, 18, 19, 21, 22, 140] (by rfl) fun K hK => ?_
    simp (decide := true) only [aOps_nil, ev, absV, absS, putD, Slots.put, Slots.get, Slots.keep, if_true, if_false, true_and, ↓ap_move, pop_move, ↓ap_binOp, pop_binOp, isNilC_int, cond_false, pBinX_int, pI_neq, ↓ag_move, agP, agQ_some, nthDst, gKnown_bool, guardB_bool_false, implies_true, decide_true, Bool.not_false, Bool.not_true, condV_true, Bool.and_true, ↓ag_binOp, ↓ap_pick, pop_pick, pPick_bool, pickV_and, Bool.and_true]
    repeat (with_reducible refine And.intro ?_ ?_; · first | trivial | omega | (intro hg; simp only [Bool.and_eq_true, Bool.or_eq_true, Bool.not_eq_true', Bool.and_eq_false_iff, Bool.or_eq_false_iff, Bool.not_eq_false', decide_eq_true_eq, decide_eq_false_iff_not, eqNil] at hg; omega) )
    apply hK; clear hK K
    refine awp_cond (b := _) rfl (fun hb3 => ?_) (fun hb3 => ?_)
    · exact absurd hb3 (by decide)
    · try simp only at hb3
      refine awp_skip ?_
      change Awp _ _ _ _ _ _ _
      -- region 19  law.go:163
      refine awp_dseq_any [0] mixed (by kernel_rfl) (by rfl) fun K hK => ?_
      simp (decide := true) only [ev, putD, Slots.put, Slots.get, if_true, if_false, true_and, ↓vp_load, pop_load, pLoad_agg ag27 sz27, rd_ne', ne_eq, not_false_eq_true, ne_10q6_9q6.symm, ne_11q6_9q6.symm, ne_12q6_9q6.symm, ne_13q6_9q6.symm, ne_14q6_9q6.symm, ne_15q6_9q6.symm, ne_16q6_9q6.symm, rd_any, cellsAt, List.getD_cons_zero, List.getD_cons_succ, Nat.zero_add, Nat.reduceAdd, lv_bool, lv_int, lv_str, allLive, Bool.and_true, Bool.and_true]
      repeat (with_reducible refine And.intro ?_ ?_; · first | trivial | omega | (intro hg; simp only [Bool.and_eq_true, Bool.or_eq_true, Bool.not_eq_true', Bool.and_eq_false_iff, Bool.or_eq_false_iff, Bool.not_eq_false', decide_eq_true_eq, decide_eq_false_iff_not, eqNil] at hg; omega) )
      refine vOps_callV (V := decA (canon false 35 2)) (by rfl) (by rfl) ((c_of12 w₀ ht _ 35 2 (by omega) (by omega) (by omega) (by omega)).val rfl) ?_
      simp (decide := true) only [ev, putD, Slots.put, Slots.get, if_true, if_false, true_and, ↓vp_binOp, pop_binOp, isNilC_tmp, cond_false, pBinX_agg, eq27, ↓vp_move, pop_move, ↓vg_load, pop_load, vgQ_some, vgP, nthDst, gKnown_bool, guardB_bool_true, implies_true, decide_true, condV_true, Bool.and_true, pLoad_agg ag27 sz27, rd_ne', ne_eq, not_false_eq_true, ne_11q6_10q6.symm, ne_12q6_10q6.symm, ne_13q6_10q6.symm, ne_14q6_10q6.symm, ne_15q6_10q6.symm, ne_16q6_10q6.symm, rd_any, cellsAt, List.getD_cons_zero, List.getD_cons_succ, Nat.zero_add, Nat.reduceAdd, lv_bool, lv_int, lv_str, allLive, Bool.and_true, decA, beq_self_eq_true, Bool.and_true, decide_true]
      repeat (with_reducible refine And.intro ?_ ?_; · first | trivial | omega | (intro hg; simp only [Bool.and_eq_true, Bool.or_eq_true, Bool.not_eq_true', Bool.and_eq_false_iff, Bool.or_eq_false_iff, Bool.not_eq_false', decide_eq_true_eq, decide_eq_false_iff_not, eqNil] at hg; omega) )
      refine vOps_gcall (V := decA (canon false 0 0)) (f := _) (cap := _) (xs := _) rfl (fun hg => ⟨rfl, ?_⟩) (fun hg => (c_of12 w₀ ht _ 0 0 (by omega) (by omega) (by omega) (by omega)).val rfl) ?_
      · try simp (decide := true) only [gv, nthDst, Slots.get, if_true, if_false, guardB_bool_true] at hg
        simp (decide := true) only [evs, ev, List.append_nil, List.map_cons, List.map_nil, absV, absS]
      simp (decide := true) only [ev, absV, absS, putD, Slots.put, Slots.get, if_true, if_false, true_and, gv, nthDst, guardB_bool_true, ↓vg_binOp, pop_binOp, vgP, vgQ_some, gKnown_bool, implies_true, decide_true, condV_true, Bool.and_true, isNilC_tmp, cond_false, pBinX_agg, eq27, ↓vp_pick, pop_pick, pPick_bool, pickV_and, ↓vp_move, pop_move, ↓vg_load, pop_load, pLoad_agg ag27 sz27, rd_ne', ne_eq, not_false_eq_true, ne_12q6_11q6.symm, ne_13q6_11q6.symm, ne_14q6_11q6.symm, ne_15q6_11q6.symm, ne_16q6_11q6.symm, rd_any, cellsAt, List.getD_cons_zero, List.getD_cons_succ, Nat.zero_add, Nat.reduceAdd, lv_bool, lv_int, lv_str, allLive, Bool.and_true, decA, beq_self_eq_true, Bool.and_true, decide_true]
      repeat (with_reducible refine And.intro ?_ ?_; · first | trivial | omega | (intro hg; simp only [Bool.and_eq_true, Bool.or_eq_true, Bool.not_eq_true', Bool.and_eq_false_iff, Bool.or_eq_false_iff, Bool.not_eq_false', decide_eq_true_eq, decide_eq_false_iff_not, eqNil] at hg; omega) )
      refine vOps_gcall (V := decA (canon true 6 1)) (f := _) (cap := _) (xs := _) rfl (fun hg => ⟨rfl, ?_⟩) (fun hg => (c_of12 w₀ ht _ (-6) 1 (by omega) (by omega) (by omega) (by omega)).val rfl) ?_
      · try simp (decide := true) only [gv, nthDst, Slots.get, if_true, if_false, guardB_bool_true] at hg
        simp (decide := true) only [evs, ev, List.append_nil, List.map_cons, List.map_nil, absV, absS]
      simp (decide := true) only [ev, absV, absS, putD, Slots.put, Slots.get, if_true, if_false, true_and, gv, nthDst, guardB_bool_true, ↓vg_binOp, pop_binOp, vgP, vgQ_some, gKnown_bool, implies_true, decide_true, condV_true, Bool.and_true, isNilC_tmp, cond_false, pBinX_agg, eq27, ↓vp_pick, pop_pick, pPick_bool, pickV_and, ↓vp_move, pop_move, ↓vg_load, pop_load, pLoad_agg ag27 sz27, rd_ne', ne_eq, not_false_eq_true, ne_13q6_12q6.symm, ne_14q6_12q6.symm, ne_15q6_12q6.symm, ne_16q6_12q6.symm, rd_any, cellsAt, List.getD_cons_zero, List.getD_cons_succ, Nat.zero_add, Nat.reduceAdd, lv_bool, lv_int, lv_str, allLive, Bool.and_true, decA, beq_self_eq_true, Bool.and_true, decide_true]
      repeat (with_reducible refine And.intro ?_ ?_; · first | trivial | omega | (intro hg; simp only [Bool.and_eq_true, Bool.or_eq_true, Bool.not_eq_true', Bool.and_eq_false_iff, Bool.or_eq_false_iff, Bool.not_eq_false', decide_eq_true_eq, decide_eq_false_iff_not, eqNil] at hg; omega) )
      refine vOps_gcall (V := .str [48, 46, 54, 54, 54, 54, 54, 54, 54, 54, 54, 54, 54, 54, 54, 54, 54, 54, 54, 54, 54, 54, 54, 54, 54, 54, 54, 54, 54, 54, 54, 54]) (f := _) (cap := _) (xs := _) rfl (fun hg => ⟨rfl, ?_⟩) (fun hg => (show ACall Tryz.prog w₀ 16 [.agg [.bool exQ.neg, .str exQ.dig, .int .i64 exQ.scale]] _ _ from (c_Text w₀ _ exQ (by decide)).val (by rw [ex_text]))) ?_
      · try simp (decide := true) only [gv, nthDst, Slots.get, if_true, if_false, guardB_bool_true] at hg
        simp (decide := true) only [evs, ev, Slots.get, if_true, if_false, List.append_nil, List.map_cons, List.map_nil]
      simp (decide := true) only [ev, absV, absS, putD, Slots.put, Slots.get, if_true, if_false, true_and, gv, nthDst, guardB_bool_true, ↓vg_binOp, pop_binOp, vgP, vgQ_some, gKnown_bool, implies_true, decide_true, condV_true, Bool.and_true, isNilC_str, cond_false, pBinX_str, pS_eql, ↓vp_pick, pop_pick, pPick_bool, pickV_and, ↓vp_move, pop_move, ↓vg_load, pop_load, pLoad_agg ag27 sz27, rd_ne', ne_eq, not_false_eq_true, ne_15q6_14q6.symm, ne_16q6_14q6.symm, rd_any, cellsAt, List.getD_cons_zero, List.getD_cons_succ, Nat.zero_add, Nat.reduceAdd, lv_bool, lv_int, lv_str, allLive, Bool.and_true, Bool.and_true, decide_true]
      repeat (with_reducible refine And.intro ?_ ?_; · first | trivial | omega | (intro hg; simp only [Bool.and_eq_true, Bool.or_eq_true, Bool.not_eq_true', Bool.and_eq_false_iff, Bool.or_eq_false_iff, Bool.not_eq_false', decide_eq_true_eq, decide_eq_false_iff_not, eqNil] at hg; omega) )
      refine vOps_gcall (V := decA (canon false 1331 3)) (f := _) (cap := _) (xs := _) rfl (fun hg => ⟨rfl, ?_⟩) (fun hg => (c_of12 w₀ ht _ 1331 3 (by omega) (by omega) (by omega) (by omega)).val rfl) ?_
      · try simp (decide := true) only [gv, nthDst, Slots.get, if_true, if_false, guardB_bool_true] at hg
        simp (decide := true) only [evs, ev, List.append_nil, List.map_cons, List.map_nil, absV, absS]
      simp (decide := true) only [ev, absV, absS, putD, Slots.put, Slots.get, if_true, if_false, true_and, gv, nthDst, guardB_bool_true, ↓vg_binOp, pop_binOp, vgP, vgQ_some, gKnown_bool, implies_true, decide_true, condV_true, Bool.and_true, isNilC_tmp, cond_false, pBinX_agg, eq27, ↓vp_pick, pop_pick, pPick_bool, pickV_and, ↓vp_move, pop_move, ↓vg_load, pop_load, pLoad_agg ag27 sz27, rd_ne', ne_eq, not_false_eq_true, ne_16q6_15q6.symm, rd_any, cellsAt, List.getD_cons_zero, List.getD_cons_succ, Nat.zero_add, Nat.reduceAdd, lv_bool, lv_int, lv_str, allLive, Bool.and_true, decA, beq_self_eq_true, Bool.and_true, decide_true]
      repeat (with_reducible refine And.intro ?_ ?_; · first | trivial | omega | (intro hg; simp only [Bool.and_eq_true, Bool.or_eq_true, Bool.not_eq_true', Bool.and_eq_false_iff, Bool.or_eq_false_iff, Bool.not_eq_false', decide_eq_true_eq, decide_eq_false_iff_not, eqNil] at hg; omega) )
      refine vOps_gcall (V := decA (canon true 125 1)) (f := _) (cap := _) (xs := _) rfl (fun hg => ⟨rfl, ?_⟩) (fun hg => (c_of12 w₀ ht _ (-125) 1 (by omega) (by omega) (by omega) (by omega)).val rfl) ?_
      · try simp (decide := true) only [gv, nthDst, Slots.get, if_true, if_false, guardB_bool_true] at hg
        simp (decide := true) only [evs, ev, List.append_nil, List.map_cons, List.map_nil, absV, absS]
      simp (decide := true) only [ev, absV, absS, putD, Slots.put, Slots.get, if_true, if_false, true_and, gv, nthDst, guardB_bool_true, ↓vg_binOp, pop_binOp, vgP, vgQ_some, gKnown_bool, implies_true, decide_true, Bool.not_false, condV_true, Bool.and_true, isNilC_tmp, cond_false, pBinX_agg, eq27, ↓vp_pick, pop_pick, pPick_bool, pickV_and, ↓vp_move, pop_move, ↓vg_move, ↓vg_unOp, pop_unOp, pU_not, ↓vg_load, pop_load, pLoad_agg ag27 sz27, rd_any, cellsAt, List.getD_cons_zero, List.getD_cons_succ, Nat.zero_add, Nat.reduceAdd, lv_bool, lv_int, lv_str, allLive, Bool.and_true, decA, beq_self_eq_true, Bool.and_true, decide_true, Bool.not_false]
      try simp (disch := omega) only [wrap_i64, wrap_u8]
      repeat (with_reducible refine And.intro ?_ ?_; · first | trivial | omega | (intro hg; simp only [Bool.and_eq_true, Bool.or_eq_true, Bool.not_eq_true', Bool.and_eq_false_iff, Bool.or_eq_false_iff, Bool.not_eq_false', decide_eq_true_eq, decide_eq_false_iff_not, eqNil] at hg; omega) )
      refine vOps_gcall (V := decA (canon false 1200 0)) (f := _) (cap := _) (xs := _) rfl (fun hg => ⟨rfl, ?_⟩) (fun hg => (c_of12 w₀ ht _ 1200 0 (by omega) (by omega) (by omega) (by omega)).val rfl) ?_
      · try simp (decide := true) only [gv, nthDst, Slots.get, if_true, if_false, guardB_bool_true] at hg
        simp (decide := true) only [evs, ev, List.append_nil, List.map_cons, List.map_nil, absV, absS]
      simp (decide := true) only [vOps_nil, ev, absV, absS, putD, Slots.put, Slots.get, Slots.keep, if_true, if_false, true_and, gv, nthDst, guardB_bool_true, ↓vg_binOp, pop_binOp, vgP, vgQ_some, gKnown_bool, implies_true, decide_true, Bool.not_false, condV_true, Bool.and_true, isNilC_tmp, cond_false, pBinX_agg, eq27, ↓vp_pick, pop_pick, pPick_bool, pickV_and, ↓vp_move, pop_move, ↓vg_move, ↓vg_unOp, pop_unOp, pU_not, ↓vp_assign, pop_assign, Bool.and_true, decA, beq_self_eq_true, Bool.and_true, decide_true, Bool.not_false]
      try simp (disch := omega) only [wrap_i64, wrap_u8]
      repeat (with_reducible refine And.intro ?_ ?_; · first | trivial | omega | (intro hg; simp only [Bool.and_eq_true, Bool.or_eq_true, Bool.not_eq_true', Bool.and_eq_false_iff, Bool.or_eq_false_iff, Bool.not_eq_false', decide_eq_true_eq, decide_eq_false_iff_not, eqNil] at hg; omega) )
      apply hK; clear hK K
      refine awp_ret ?_
      try simp only [thenA_ret, inBlockA_ret]
      refine retA_ret h (by repeat (first | exact Sub.refl _ | assumption | refine Sub.trans_set ?_ (by assumption))) (resPre_tmp (resPre_nil)) ?_
      simp (decide := true) only [Slots.get, if_true, and_true, resOf_one]
      all_goals first | rfl | exact ⟨rfl, rfl⟩ | (simp (decide := true) only [if_true, if_false, *]; done) | (trace_state; fail)
end Go.Proofs.YthiiakghjoeikaaGreatDoor

/-
  The statements' Text.
  Conditions: none.
-/
namespace Go.Proofs.YthiiakghjoeikaaGreatDoor
open Go.AM
open Go.Proofs
open Go.Dec
open Go.Lib (decDigits)
set_option maxRecDepth 100000

end Go.Proofs.YthiiakghjoeikaaGreatDoor

