/-
  Contracts of the library's functions that the package decimals calls; number.
  Conditions: none.
-/
import Derived.Test.YthiiakghjoeikaaGreatDoorTy
import Derived.Test.YthiiakghjoeikaaGreatDoorShelf
import Derived.Test.YthiiakghjoeikaaGreatDoorPlD
set_option linter.unusedSimpArgs false
set_option linter.unnecessarySimpa false
set_option linter.unusedVariables false
namespace Go.Proofs.YthiiakghjoeikaaGreatDoor
open Go.AM
open Go.Proofs
open Go.Dec
set_option maxRecDepth 100000

def digCells : List AVal := (List.range 256).map fun j => .bool (decide (48 ≤ j) && decide (j ≤ 57))
theorem digCells_get (x : UInt8) : digCells.getD x.toNat .dead = .bool (dg x) := by
  have := x.toNat_lt
  simp only [digCells, List.getD, List.getElem?_map, List.getElem?_range this, Option.map_some, Option.getD_some, dg]

theorem c_asciiSet (w₀ : World) (h : AHeap) : ACall Tryz.prog w₀ 78 [.str [48, 49, 50, 51, 52, 53, 54, 55, 56, 57]] h (fun v h' => v = .tuple [.agg digCells, .bool true] ∧ h' = h) := by
  refine acall_of_calls (vals := [.string ⟨⟨[48, 49, 50, 51, 52, 53, 54, 55, 56, 57]⟩⟩]) (val := .tuple #[.agg (Go.Lib.setCells [48, 49, 50, 51, 52, 53, 54, 55, 56, 57]), .bool true]) Tryz.func78 rfl rfl (fun φ vs hv => ?_) (fun φ => ?_) fun w => ?_
  · simp only [VRs, VR] at hv
    obtain ⟨v, vs', rfl, rfl, rfl⟩ := hv
    rfl
  · have e : Go.Lib.setCells [48, 49, 50, 51, 52, 53, 54, 55, 56, 57] = (digCells.map fun v => match v with | .bool b => Value.bool b | _ => Value.bool false).toArray := by kernel_rfl
    rw [e]
    simp only [VR]
    refine ⟨_, rfl, ?_⟩
    simp only [VRs]
    refine ⟨_, _, rfl, ?_, _, _, rfl, by simp only [VR], rfl⟩
    simp only [VR]
    refine ⟨_, rfl, VRs_of_get (by simp) fun j hj => ?_⟩
    simp only [List.getD, List.getElem?_map]
    cases e2 : digCells[j]? with
    | none => rw [List.getElem?_eq_none_iff] at e2; omega
    | some v =>
      simp only [Option.map_some, Option.getD_some]
      have hv : ∃ b, v = .bool b := by
        have hm := List.mem_of_getElem? e2
        simp only [digCells, List.mem_map] at hm
        obtain ⟨q, _, rfl⟩ := hm
        exact ⟨_, rfl⟩
      obtain ⟨b, rfl⟩ := hv
      simp only [VR]
  · refine (Tryz.strings_makeASCIISet (fun w => run_zero' (by kernel_rfl) w) ⟨⟨[48, 49, 50, 51, 52, 53, 54, 55, 56, 57]⟩⟩ w (by decide) (fun j b hj => by
      have hm := List.mem_of_getElem? hj
      simp only [List.mem_cons, List.not_mem_nil, or_false] at hm
      rcases hm with rfl | rfl | rfl | rfl | rfl | rfl | rfl | rfl | rfl | rfl <;> decide)).mono fun e w' ⟨e1, e2⟩ => ⟨e1, ?_⟩
    subst e2
    exact Below.allocd w _

theorem c_contains (w₀ : World) (h : AHeap) (k : Nat) (hk : h k = some ⟨digCells, 0⟩) (x : UInt8) : ACall Tryz.prog w₀ 98 [.ptr (.own k) 0, .int .u8 x.toNat] h (fun v h' => v = .bool (dg x) ∧ h' = h) := by
  have hx := x.toNat_lt
  refine acall_intro (n := 10) (rs := [.tmp 4]) Tryz.func98 rfl rfl rfl rfl (Nat.le_of_ble_eq_true rfl) ?_
  simp only [initSlots]
  -- region 0  strings.go:964
  refine awp_rseq [0, 1] (by rfl) fun K hK => ?_
  simp (decide := true) only [aOps_nil, ev, absV, absS, putD, Slots.put, Slots.keep, if_true, if_false, true_and, ↓ap_assign, pop_assign]
  repeat (with_reducible refine And.intro ?_ ?_; · first | trivial | omega | (intro hg; simp only [Bool.and_eq_true, Bool.or_eq_true, Bool.not_eq_true', Bool.and_eq_false_iff, Bool.or_eq_false_iff, Bool.not_eq_false', decide_eq_true_eq, decide_eq_false_iff_not, eqNil] at hg; omega) )
  apply hK; clear hK K
  -- region 1  strings.go:965
  refine awp_rseq [4] (by rfl) fun K hK => ?_
  simp (decide := true) only [aOps_nil, ev, putD, Slots.put, Slots.get, Slots.keep, if_true, if_false, true_and, ↓ap_move, pop_move, ↓ap_nilCheck, pop_nilCheck, pNil_ptr, ↓ap_indexAddrL, apL_mk, pIndexAddr_ptr Tryz.underlying104 sz4, ↓ap_loadL, pLoad_one ag4, ↓ap_assign, pop_assign, rd_own w₀ hk, Nat.zero_add, Nat.mul_one, Int.toNat_natCast, digCells_get, AVal.live]
  repeat (with_reducible refine And.intro ?_ ?_; · first | trivial | omega | (intro hg; simp only [Bool.and_eq_true, Bool.or_eq_true, Bool.not_eq_true', Bool.and_eq_false_iff, Bool.or_eq_false_iff, Bool.not_eq_false', decide_eq_true_eq, decide_eq_false_iff_not, eqNil] at hg; omega) )
  apply hK; clear hK K
  refine awp_ret ?_
  try simp only [thenA_ret, inBlockA_ret]
  refine retA_ret _ (Sub.refl _) (resPre_tmp (resPre_nil)) ?_
  simp (decide := true) only [Slots.get, if_true, and_true, resOf_one]
  all_goals first | rfl | exact ⟨rfl, rfl⟩ | (simp (decide := true) only [if_true, if_false, *]; done) | (trace_state; fail)

theorem drop_one (t : List UInt8) (h : 0 < t.length) : t = t.getD 0 0 :: t.drop 1 := by
  cases t with
  | nil => simp at h
  | cons x r => rfl
theorem rev_last (t : List UInt8) (h : 0 < t.length) : t.reverse = t.getD (t.length - 1) 0 :: (t.take (t.length - 1)).reverse := by
  have e : t.drop (t.length - 1) = [t.getD (t.length - 1) 0] := by
    rw [List.drop_eq_getElem_cons (by omega), List.getD, List.getElem?_eq_getElem (by omega), List.drop_eq_nil_of_le (by omega)]
    rfl
  have e2 := List.take_append_drop (t.length - 1) t
  rw [e] at e2
  conv => lhs; rw [← e2]
  simp
theorem sub_left (t : List UInt8) (n : Int) (hn : n = t.length) (k : Nat) : List.take (n.toNat - k) (List.drop k t) = t.drop k := by
  subst hn
  rw [Int.toNat_natCast]
  exact List.take_of_length_le (by simp)

theorem c_trimLeftA (w₀ : World) (h : AHeap) (k : Nat) (hk : h k = some ⟨digCells, 0⟩) (s : List UInt8) (hl : s.length ≤ 9223372036854775807) : ACall Tryz.prog w₀ 79 [.str s, .ptr (.own k) 0] h (fun v h' => v = .str (s.dropWhile dg) ∧ h' = h) := by
  refine acall_intro (n := 16) (rs := [.tmp 4]) Tryz.func79 rfl rfl rfl rfl (Nat.le_of_ble_eq_true rfl) ?_
  simp only [initSlots]
  -- region 0  strings.go:1017
  refine awp_rseq [0, 1] (by rfl) fun K hK => ?_
  simp (decide := true) only [aOps_nil, ev, absV, absS, putD, Slots.put, Slots.keep, if_true, if_false, true_and, ↓ap_assign, pop_assign]
  repeat (with_reducible refine And.intro ?_ ?_; · first | trivial | omega | (intro hg; simp only [Bool.and_eq_true, Bool.or_eq_true, Bool.not_eq_true', Bool.and_eq_false_iff, Bool.or_eq_false_iff, Bool.not_eq_false', decide_eq_true_eq, decide_eq_false_iff_not, eqNil] at hg; omega) )
  apply hK; clear hK K
  refine awp_seq ?_
  refine awp_block ?_
  refine awp_loopG [0, 1] (fun t : List UInt8 => [(0, .str t), (1, .ptr (.own k) 0)]) (fun t : List UInt8 => h) (fun t : List UInt8 => t.dropWhile dg = s.dropWhile dg ∧ t.length ≤ s.length) (fun t : List UInt8 => t.length) s rfl (Sub.refl _) ⟨rfl, Nat.le_refl _⟩ ?_
  rintro t ⟨ht1, ht2⟩
  refine awp_seq ?_
  -- region 1  strings.go:1018
  refine awp_rseq [0, 1, 7] (by rfl) fun K hK => ?_
  simp (decide := true) only [aOps_nil, ev, absV, absS, putD, Slots.put, Slots.get, Slots.keep, if_true, if_false, true_and, ↓ap_move, pop_move, ↓ap_len, pop_len, pLen_str Tryz.underlying9, ↓ap_binOp, pop_binOp, isNilC_int, cond_false, pBinX_int, pI_gtr]
  repeat (with_reducible refine And.intro ?_ ?_; · first | trivial | omega | (intro hg; simp only [Bool.and_eq_true, Bool.or_eq_true, Bool.not_eq_true', Bool.and_eq_false_iff, Bool.or_eq_false_iff, Bool.not_eq_false', decide_eq_true_eq, decide_eq_false_iff_not, eqNil] at hg; omega) )
  apply hK; clear hK K
  refine awp_cond (b := _) rfl (fun hb1 => ?_) (fun hb1 => ?_)
  · try simp only [decide_eq_true_eq] at hb1
    refine awp_skip ?_
    change Awp _ _ _ _ _ _ _
    refine awp_block ?_
    refine awp_seq ?_
    -- region 2  strings.go:1019
    refine awp_rseq [0, 1, 12] (by rfl) fun K hK => ?_
    simp (decide := true) only [ev, absV, absS, putD, Slots.put, Slots.get, if_true, if_false, true_and, ↓ap_move, pop_move, ↓ap_index, pop_index, pIndex_str Tryz.underlying9]
    repeat (with_reducible refine And.intro ?_ ?_; · first | trivial | omega | (intro hg; simp only [Bool.and_eq_true, Bool.or_eq_true, Bool.not_eq_true', Bool.and_eq_false_iff, Bool.or_eq_false_iff, Bool.not_eq_false', decide_eq_true_eq, decide_eq_false_iff_not, eqNil] at hg; omega) )
    refine aOps_callV (V := .bool (dg (t.getD 0 0))) (by rfl) (by rfl) (c_contains w₀ _ k hk _) ?_
    simp (decide := true) only [aOps_nil, ev, putD, Slots.put, Slots.get, Slots.keep, if_true, if_false, true_and, ↓ap_unOp, pop_unOp, pU_not]
    try simp (disch := omega) only [wrap_i64, wrap_u8]
    repeat (with_reducible refine And.intro ?_ ?_; · first | trivial | omega | (intro hg; simp only [Bool.and_eq_true, Bool.or_eq_true, Bool.not_eq_true', Bool.and_eq_false_iff, Bool.or_eq_false_iff, Bool.not_eq_false', decide_eq_true_eq, decide_eq_false_iff_not, eqNil] at hg; omega) )
    apply hK; clear hK K
    refine awp_cond (b := _) rfl (fun hb2 => ?_) (fun hb2 => ?_)
    · try simp only [Bool.not_eq_true'] at hb2
      refine awp_exit ?_
      change Awp _ _ _ _ _ _ _
      -- region 4  strings.go:1024
      refine awp_rseq [4] (by rfl) fun K hK => ?_
      simp (decide := true) only [aOps_nil, ev, putD, Slots.put, Slots.get, Slots.keep, if_true, if_false, true_and, ↓ap_move, pop_move, ↓ap_assign, pop_assign]
      repeat (with_reducible refine And.intro ?_ ?_; · first | trivial | omega | (intro hg; simp only [Bool.and_eq_true, Bool.or_eq_true, Bool.not_eq_true', Bool.and_eq_false_iff, Bool.or_eq_false_iff, Bool.not_eq_false', decide_eq_true_eq, decide_eq_false_iff_not, eqNil] at hg; omega) )
      apply hK; clear hK K
      refine awp_ret ?_
      try simp only [thenA_ret, inBlockA_ret]
      refine retA_ret _ (Sub.refl _) (resPre_tmp (resPre_nil)) ?_
      simp (decide := true) only [Slots.get, if_true, and_true, resOf_one]
      have e := drop_one t (by omega)
      rw [← ht1, e, List.dropWhile_cons, if_neg (by rw [hb2]; decide)]
    · try simp only [Bool.not_eq_false'] at hb2
      refine awp_skip ?_
      change Awp _ _ _ _ _ _ _
      -- region 3  strings.go:1022
      refine awp_r [0, 1] (by rfl) ?_
      simp (decide := true) only [aOps_nil, ev, absV, absS, putD, Slots.put, Slots.get, Slots.keep, if_true, if_false, true_and, ↓ap_move, pop_move, ↓ap_slice, pop_slice, evO, pSliceS_i0 Tryz.underlying9, pSliceS, bndA_none, bndA_int, ↓ap_assign, pop_assign]
      repeat (with_reducible refine And.intro ?_ ?_; · first | trivial | omega | (intro hg; simp only [Bool.and_eq_true, Bool.or_eq_true, Bool.not_eq_true', Bool.and_eq_false_iff, Bool.or_eq_false_iff, Bool.not_eq_false', decide_eq_true_eq, decide_eq_false_iff_not, eqNil] at hg; omega) )
      try simp only [thenA_normal, inBlockA_normal]
      have hl0 : 0 < t.length := by omega
      have e := drop_one t hl0
      refine ⟨t.drop 1, ?_, Sub.refl _, ⟨?_, by simp; omega⟩, by simp; omega⟩
      · rw [show Int.toNat 1 = 1 from rfl, sub_left t _ rfl]; rfl
      · rw [← ht1]
        conv => rhs; rw [e]
        rw [List.dropWhile_cons, if_pos hb2]
  · try simp only [decide_eq_false_iff_not] at hb1
    refine awp_exit ?_
    change Awp _ _ _ _ _ _ _
    -- region 4  strings.go:1024
    refine awp_rseq [4] (by rfl) fun K hK => ?_
    simp (decide := true) only [aOps_nil, ev, putD, Slots.put, Slots.get, Slots.keep, if_true, if_false, true_and, ↓ap_move, pop_move, ↓ap_assign, pop_assign]
    repeat (with_reducible refine And.intro ?_ ?_; · first | trivial | omega | (intro hg; simp only [Bool.and_eq_true, Bool.or_eq_true, Bool.not_eq_true', Bool.and_eq_false_iff, Bool.or_eq_false_iff, Bool.not_eq_false', decide_eq_true_eq, decide_eq_false_iff_not, eqNil] at hg; omega) )
    apply hK; clear hK K
    refine awp_ret ?_
    try simp only [thenA_ret, inBlockA_ret]
    refine retA_ret _ (Sub.refl _) (resPre_tmp (resPre_nil)) ?_
    simp (decide := true) only [Slots.get, if_true, and_true, resOf_one]
    have e : t = [] := List.eq_nil_of_length_eq_zero (by omega)
    rw [← ht1, e]; rfl

theorem c_trimRightA (w₀ : World) (h : AHeap) (k : Nat) (hk : h k = some ⟨digCells, 0⟩) (s : List UInt8) (hl : s.length ≤ 9223372036854775807) : ACall Tryz.prog w₀ 82 [.str s, .ptr (.own k) 0] h (fun v h' => v = .str (s.reverse.dropWhile dg).reverse ∧ h' = h) := by
  refine acall_intro (n := 22) (rs := [.tmp 4]) Tryz.func82 rfl rfl rfl rfl (Nat.le_of_ble_eq_true rfl) ?_
  simp only [initSlots]
  -- region 0  strings.go:1062
  refine awp_rseq [0, 1] (by rfl) fun K hK => ?_
  simp (decide := true) only [aOps_nil, ev, absV, absS, putD, Slots.put, Slots.keep, if_true, if_false, true_and, ↓ap_assign, pop_assign]
  repeat (with_reducible refine And.intro ?_ ?_; · first | trivial | omega | (intro hg; simp only [Bool.and_eq_true, Bool.or_eq_true, Bool.not_eq_true', Bool.and_eq_false_iff, Bool.or_eq_false_iff, Bool.not_eq_false', decide_eq_true_eq, decide_eq_false_iff_not, eqNil] at hg; omega) )
  apply hK; clear hK K
  refine awp_seq ?_
  refine awp_block ?_
  refine awp_loopG [0, 1] (fun t : List UInt8 => [(0, .str t), (1, .ptr (.own k) 0)]) (fun t : List UInt8 => h) (fun t : List UInt8 => t.reverse.dropWhile dg = s.reverse.dropWhile dg ∧ t.length ≤ s.length) (fun t : List UInt8 => t.length) s rfl (Sub.refl _) ⟨rfl, Nat.le_refl _⟩ ?_
  rintro t ⟨ht1, ht2⟩
  refine awp_seq ?_
  -- region 1  strings.go:1063
  refine awp_rseq [0, 1, 7] (by rfl) fun K hK => ?_
  simp (decide := true) only [aOps_nil, ev, absV, absS, putD, Slots.put, Slots.get, Slots.keep, if_true, if_false, true_and, ↓ap_move, pop_move, ↓ap_len, pop_len, pLen_str Tryz.underlying9, ↓ap_binOp, pop_binOp, isNilC_int, cond_false, pBinX_int, pI_gtr]
  repeat (with_reducible refine And.intro ?_ ?_; · first | trivial | omega | (intro hg; simp only [Bool.and_eq_true, Bool.or_eq_true, Bool.not_eq_true', Bool.and_eq_false_iff, Bool.or_eq_false_iff, Bool.not_eq_false', decide_eq_true_eq, decide_eq_false_iff_not, eqNil] at hg; omega) )
  apply hK; clear hK K
  refine awp_cond (b := _) rfl (fun hb1 => ?_) (fun hb1 => ?_)
  · try simp only [decide_eq_true_eq] at hb1
    refine awp_skip ?_
    change Awp _ _ _ _ _ _ _
    refine awp_block ?_
    refine awp_seq ?_
    -- region 2  strings.go:1064
    refine awp_rseq [0, 1, 15] (by rfl) fun K hK => ?_
    simp (decide := true) only [ev, absV, absS, putD, Slots.put, Slots.get, if_true, if_false, true_and, ↓ap_move, pop_move, ↓ap_len, pop_len, pLen_str Tryz.underlying9, ↓ap_binOp, pop_binOp, isNilC_int, cond_false, pBinX_int, pI_sub]
    try simp (disch := omega) only [wrap_i64]
    try simp (decide := true) only [ev, putD, Slots.put, Slots.get, if_true, if_false, ↓ap_index, pop_index, pIndex_str Tryz.underlying9]
    repeat (with_reducible refine And.intro ?_ ?_; · first | trivial | omega | (intro hg; simp only [Bool.and_eq_true, Bool.or_eq_true, Bool.not_eq_true', Bool.and_eq_false_iff, Bool.or_eq_false_iff, Bool.not_eq_false', decide_eq_true_eq, decide_eq_false_iff_not, eqNil] at hg; omega) )
    refine aOps_callV (V := .bool (dg (t.getD ((t.length : Int) - 1).toNat 0))) (by rfl) (by rfl) (c_contains w₀ _ k hk _) ?_
    simp (decide := true) only [aOps_nil, ev, putD, Slots.put, Slots.get, Slots.keep, if_true, if_false, true_and, ↓ap_unOp, pop_unOp, pU_not]
    try simp (disch := omega) only [wrap_i64, wrap_u8]
    repeat (with_reducible refine And.intro ?_ ?_; · first | trivial | omega | (intro hg; simp only [Bool.and_eq_true, Bool.or_eq_true, Bool.not_eq_true', Bool.and_eq_false_iff, Bool.or_eq_false_iff, Bool.not_eq_false', decide_eq_true_eq, decide_eq_false_iff_not, eqNil] at hg; omega) )
    apply hK; clear hK K
    refine awp_cond (b := _) rfl (fun hb2 => ?_) (fun hb2 => ?_)
    · try simp only [Bool.not_eq_true'] at hb2
      refine awp_exit ?_
      change Awp _ _ _ _ _ _ _
      -- region 4  strings.go:1069
      refine awp_rseq [4] (by rfl) fun K hK => ?_
      simp (decide := true) only [aOps_nil, ev, putD, Slots.put, Slots.get, Slots.keep, if_true, if_false, true_and, ↓ap_move, pop_move, ↓ap_assign, pop_assign]
      repeat (with_reducible refine And.intro ?_ ?_; · first | trivial | omega | (intro hg; simp only [Bool.and_eq_true, Bool.or_eq_true, Bool.not_eq_true', Bool.and_eq_false_iff, Bool.or_eq_false_iff, Bool.not_eq_false', decide_eq_true_eq, decide_eq_false_iff_not, eqNil] at hg; omega) )
      apply hK; clear hK K
      refine awp_ret ?_
      try simp only [thenA_ret, inBlockA_ret]
      refine retA_ret _ (Sub.refl _) (resPre_tmp (resPre_nil)) ?_
      simp (decide := true) only [Slots.get, if_true, and_true, resOf_one]
      have e := rev_last t (by omega)
      have e0 : ((t.length : Int) - 1).toNat = t.length - 1 := by omega
      rw [e0] at hb2
      rw [← ht1, e, List.dropWhile_cons, if_neg (by rw [hb2]; decide), ← e, List.reverse_reverse]
    · try simp only [Bool.not_eq_false'] at hb2
      refine awp_skip ?_
      change Awp _ _ _ _ _ _ _
      -- region 3  strings.go:1067
      refine awp_r [0, 1] (by rfl) ?_
      simp (decide := true) only [ev, absV, absS, putD, Slots.put, Slots.get, if_true, if_false, true_and, ↓ap_move, pop_move, ↓ap_len, pop_len, pLen_str Tryz.underlying9, ↓ap_binOp, pop_binOp, isNilC_int, cond_false, pBinX_int, pI_sub]
      try simp (disch := omega) only [wrap_i64]
      try simp (decide := true) only [aOps_nil, ev, putD, Slots.put, Slots.get, Slots.keep, if_true, if_false, true_and, ↓ap_slice, pop_slice, evO, pSliceS_0i Tryz.underlying9, pSliceS, bndA_none, bndA_int, ↓ap_assign, pop_assign]
      repeat (with_reducible refine And.intro ?_ ?_; · first | trivial | omega | (intro hg; simp only [Bool.and_eq_true, Bool.or_eq_true, Bool.not_eq_true', Bool.and_eq_false_iff, Bool.or_eq_false_iff, Bool.not_eq_false', decide_eq_true_eq, decide_eq_false_iff_not, eqNil] at hg; omega) )
      try simp only [thenA_normal, inBlockA_normal]
      have hl0 : 0 < t.length := by omega
      have e := rev_last t hl0
      have e0 : ((t.length : Int) - 1).toNat = t.length - 1 := by omega
      rw [e0] at hb2
      refine ⟨t.take (t.length - 1), ?_, Sub.refl _, ⟨?_, by simp; omega⟩, by simp; omega⟩
      · rw [e0]; simp only [Int.toNat_natCast, List.drop_zero, Nat.sub_zero]; rfl
      · rw [← ht1, e, List.dropWhile_cons, if_pos hb2]
  · try simp only [decide_eq_false_iff_not] at hb1
    refine awp_exit ?_
    change Awp _ _ _ _ _ _ _
    -- region 4  strings.go:1069
    refine awp_rseq [4] (by rfl) fun K hK => ?_
    simp (decide := true) only [aOps_nil, ev, putD, Slots.put, Slots.get, Slots.keep, if_true, if_false, true_and, ↓ap_move, pop_move, ↓ap_assign, pop_assign]
    repeat (with_reducible refine And.intro ?_ ?_; · first | trivial | omega | (intro hg; simp only [Bool.and_eq_true, Bool.or_eq_true, Bool.not_eq_true', Bool.and_eq_false_iff, Bool.or_eq_false_iff, Bool.not_eq_false', decide_eq_true_eq, decide_eq_false_iff_not, eqNil] at hg; omega) )
    apply hK; clear hK K
    refine awp_ret ?_
    try simp only [thenA_ret, inBlockA_ret]
    refine retA_ret _ (Sub.refl _) (resPre_tmp (resPre_nil)) ?_
    simp (decide := true) only [Slots.get, if_true, and_true, resOf_one]
    have e : t = [] := List.eq_nil_of_length_eq_zero (by omega)
    rw [← ht1, e]; rfl


theorem ze_ascii : zeOf Tryz.prog 104 = some (.agg (Array.replicate 256 (.bool false))) := by kernel_rfl

theorem c_trimD (w₀ : World) (h : AHeap) (s : List UInt8) (hl : s.length ≤ 9223372036854775807) :
    ACall Tryz.prog w₀ 57 [.str s, .str [48, 49, 50, 51, 52, 53, 54, 55, 56, 57]] h (fun v h' => v = .str ((s.reverse.dropWhile dg).reverse.dropWhile dg) ∧ h' = h) := by
  refine acall_intro (n := 43) (rs := [.tmp 4]) Tryz.func57 rfl rfl rfl rfl (Nat.le_of_ble_eq_true rfl) ?_
  simp only [initSlots]
  -- region 0  strings.go:980
  refine awp_rseq [0, 1] (by rfl) fun K hK => ?_
  simp (decide := true) only [aOps_nil, ev, absV, absS, putD, Slots.put, Slots.keep, if_true, if_false, true_and, ↓ap_assign, pop_assign]
  repeat (with_reducible refine And.intro ?_ ?_; · first | trivial | omega | (intro hg; simp only [Bool.and_eq_true, Bool.or_eq_true, Bool.not_eq_true', Bool.and_eq_false_iff, Bool.or_eq_false_iff, Bool.not_eq_false', decide_eq_true_eq, decide_eq_false_iff_not, eqNil] at hg; omega) )
  apply hK; clear hK K
  refine awp_seq ?_
  -- region 1  strings.go:981
  refine awp_rseq [0, 1, 12] (by rfl) fun K hK => ?_
  simp (decide := true) only [aOps_nil, ev, absV, absS, putD, Slots.put, Slots.get, Slots.keep, if_true, if_false, true_and, ↓ap_move, pop_move, ↓ap_binOp, pop_binOp, isNilC_str, cond_false, pBinX_str, pS_eql, ↓ag_move, agP, agQ_some, nthDst, gKnown_bool, guardB_bool_false, implies_true, decide_false, Bool.and_true, ↓ag_binOp, cv_binl, cp_binl, ↓ap_pick, pop_pick, pPick_bool, pickV_cond_r, pickV_and]
  repeat (with_reducible refine And.intro ?_ ?_; · first | trivial | omega | (intro hg; simp only [Bool.and_eq_true, Bool.or_eq_true, Bool.not_eq_true', Bool.and_eq_false_iff, Bool.or_eq_false_iff, Bool.not_eq_false', decide_eq_true_eq, decide_eq_false_iff_not, eqNil] at hg; omega) )
  apply hK; clear hK K
  refine awp_cond (b := _) rfl (fun hb1 => ?_) (fun hb1 => ?_)
  · try simp only [decide_eq_true_eq] at hb1
    -- region 2  strings.go:982
    refine awp_rseq [4] (by rfl) fun K hK => ?_
    simp (decide := true) only [aOps_nil, ev, putD, Slots.put, Slots.get, Slots.keep, if_true, if_false, true_and, ↓ap_move, pop_move, ↓ap_assign, pop_assign]
    repeat (with_reducible refine And.intro ?_ ?_; · first | trivial | omega | (intro hg; simp only [Bool.and_eq_true, Bool.or_eq_true, Bool.not_eq_true', Bool.and_eq_false_iff, Bool.or_eq_false_iff, Bool.not_eq_false', decide_eq_true_eq, decide_eq_false_iff_not, eqNil] at hg; omega) )
    apply hK; clear hK K
    refine awp_ret ?_
    try simp only [thenA_ret]
    refine retA_ret _ (Sub.refl _) (resPre_tmp (resPre_nil)) ?_
    simp (decide := true) only [Slots.get, if_true, and_true, resOf_one]
    rw [hb1]; rfl
  · try simp only [decide_eq_false_iff_not] at hb1
    refine awp_skip ?_
    change Awp _ _ _ _ _ _ _
    refine awp_seq ?_
    -- region 3  strings.go:984
    refine awp_rseq [0, 1, 21] (by rfl) fun K hK => ?_
    simp (decide := true) only [aOps_nil, ev, absV, absS, putD, Slots.put, Slots.get, Slots.keep, if_true, if_false, true_and, ↓ap_move, pop_move, ↓ap_len, pop_len, pLen_str Tryz.underlying9, ↓ap_binOp, pop_binOp, isNilC_int, cond_false, pBinX_int, pI_eql, ↓ag_move, agP, agQ_some, nthDst, gKnown_bool, guardB_bool_true, implies_true, decide_false, condV_false, false_implies, pickV_false, ↓ag_index, pop_index, ↓ag_binOp, ↓ap_pick, pop_pick, pPick_bool]
    repeat (with_reducible refine And.intro ?_ ?_; · first | trivial | omega | (intro hg; simp only [Bool.and_eq_true, Bool.or_eq_true, Bool.not_eq_true', Bool.and_eq_false_iff, Bool.or_eq_false_iff, Bool.not_eq_false', decide_eq_true_eq, decide_eq_false_iff_not, eqNil] at hg; omega) )
    apply hK; clear hK K
    refine awp_cond (b := _) rfl (fun hb2 => ?_) (fun hb2 => ?_)
    · cases hb2
    · try simp only at hb2
      refine awp_skip ?_
      change Awp _ _ _ _ _ _ _
      refine awp_seq ?_
      -- region 5  strings.go:987
      refine awp_rseq [0, 1, 5, 6] (by rfl) fun K hK => ?_
      simp (decide := true) only [ev, putD, Slots.put, Slots.get, if_true, if_false, true_and, ↓ap_move, pop_move]
      repeat (with_reducible refine And.intro ?_ ?_; · first | trivial | omega | (intro hg; simp only [Bool.and_eq_true, Bool.or_eq_true, Bool.not_eq_true', Bool.and_eq_false_iff, Bool.or_eq_false_iff, Bool.not_eq_false', decide_eq_true_eq, decide_eq_false_iff_not, eqNil] at hg; omega) )
      refine aOps_callV (V := .tuple [.agg digCells, .bool true]) (by rfl) (by rfl) (c_asciiSet w₀ h) ?_
      simp (decide := true) only [ev, putD, Slots.put, Slots.get, if_true, if_false, true_and, ↓ap_move, pop_move, ↓ap_extract, pop_extract, pExt_tuple, List.getD_cons_zero, List.getD_cons_succ]
      repeat (with_reducible refine And.intro ?_ ?_; · first | trivial | omega | (intro hg; simp only [Bool.and_eq_true, Bool.or_eq_true, Bool.not_eq_true', Bool.and_eq_false_iff, Bool.or_eq_false_iff, Bool.not_eq_false', decide_eq_true_eq, decide_eq_false_iff_not, eqNil] at hg; omega) )
      refine aOps_alloc ze_ascii (cs := List.replicate 256 (.bool false)) (by kernel_rfl) fun k hk => ?_
      refine aOps_store (v := .agg digCells) (by rfl) (by rfl) (AHeap.set_same _ _ _) sz104 (by rfl) (by kernel_rfl) (by decide +kernel) (Nat.zero_le _) (by kernel_rfl) ?_
      rw [AHeap.set_set, show setAt (List.replicate 256 (.bool false)) 0 (AVal.agg digCells).cells = digCells by kernel_rfl]
      simp (decide := true) only [aOps_nil, ev, putD, Slots.put, Slots.get, Slots.keep, if_true, if_false, true_and, ↓ap_assign, pop_assign]
      repeat (with_reducible refine And.intro ?_ ?_; · first | trivial | omega | (intro hg; simp only [Bool.and_eq_true, Bool.or_eq_true, Bool.not_eq_true', Bool.and_eq_false_iff, Bool.or_eq_false_iff, Bool.not_eq_false', decide_eq_true_eq, decide_eq_false_iff_not, eqNil] at hg; omega) )
      apply hK; clear hK K
      -- region 6  strings.go:987
      refine awp_rseq [0, 1, 5, 34] (by rfl) fun K hK => ?_
      simp (decide := true) only [aOps_nil, ev, putD, Slots.put, Slots.get, Slots.keep, if_true, if_false, true_and, ↓ap_move, pop_move]
      repeat (with_reducible refine And.intro ?_ ?_; · first | trivial | omega | (intro hg; simp only [Bool.and_eq_true, Bool.or_eq_true, Bool.not_eq_true', Bool.and_eq_false_iff, Bool.or_eq_false_iff, Bool.not_eq_false', decide_eq_true_eq, decide_eq_false_iff_not, eqNil] at hg; omega) )
      apply hK; clear hK K
      refine awp_cond (b := _) rfl (fun hb3 => ?_) (fun hb3 => ?_)
      · try simp only at hb3
        -- region 7  strings.go:988
        refine awp_rseq [4] (by rfl) fun K hK => ?_
        simp (decide := true) only [ev, putD, Slots.put, Slots.get, if_true, if_false, true_and, ↓ap_move, pop_move]
        repeat (with_reducible refine And.intro ?_ ?_; · first | trivial | omega | (intro hg; simp only [Bool.and_eq_true, Bool.or_eq_true, Bool.not_eq_true', Bool.and_eq_false_iff, Bool.or_eq_false_iff, Bool.not_eq_false', decide_eq_true_eq, decide_eq_false_iff_not, eqNil] at hg; omega) )
        refine aOps_callV (V := .str (s.reverse.dropWhile dg).reverse) (by rfl) (by rfl) (c_trimRightA w₀ _ k (AHeap.set_same _ _ _) s hl) ?_
        refine aOps_callV (V := .str ((s.reverse.dropWhile dg).reverse.dropWhile dg)) (by rfl) (by rfl) (c_trimLeftA w₀ _ k (AHeap.set_same _ _ _) _ (by have := (List.dropWhile_sublist (p := dg) (l := s.reverse)).length_le; simp at this ⊢; omega)) ?_
        simp (decide := true) only [aOps_nil, ev, putD, Slots.put, Slots.get, Slots.keep, if_true, if_false, true_and, ↓ap_assign, pop_assign]
        repeat (with_reducible refine And.intro ?_ ?_; · first | trivial | omega | (intro hg; simp only [Bool.and_eq_true, Bool.or_eq_true, Bool.not_eq_true', Bool.and_eq_false_iff, Bool.or_eq_false_iff, Bool.not_eq_false', decide_eq_true_eq, decide_eq_false_iff_not, eqNil] at hg; omega) )
        apply hK; clear hK K
        refine awp_ret ?_
        try simp only [thenA_ret]
        refine retA_ret h (Sub.set hk) (resPre_tmp (resPre_nil)) ?_
        simp (decide := true) only [Slots.get, if_true, and_true, resOf_one]
        all_goals first | rfl | exact ⟨rfl, rfl⟩ | (simp (decide := true) only [if_true, if_false, *]; done) | (trace_state; fail)
      · cases hb3

theorem dropWhile_nil (p : UInt8 → Bool) : ∀ l : List UInt8, l.dropWhile p = [] ↔ ∀ b ∈ l, p b = true
  | [] => by simp
  | x :: l => by
    rw [List.dropWhile_cons]
    by_cases h : p x = true
    · rw [if_pos h, dropWhile_nil p l]; simp [h]
    · rw [if_neg h]; simp [h]

theorem takeWhile_all (p : UInt8 → Bool) : ∀ (l : List UInt8) (b : UInt8), b ∈ l.takeWhile p → p b = true
  | [], b, h => by simp at h
  | x :: l, b, h => by
    rw [List.takeWhile_cons] at h
    by_cases hx : p x = true
    · rw [if_pos hx] at h
      rcases List.mem_cons.1 h with e | e
      · rw [e]; exact hx
      · exact takeWhile_all p l b e
    · rw [if_neg hx] at h; simp at h

theorem trimD_nil (s : List UInt8) : decide ((s.reverse.dropWhile dg).reverse.dropWhile dg = []) = s.all dg := by
  rw [Bool.eq_iff_iff, decide_eq_true_eq, dropWhile_nil, List.all_eq_true]
  constructor
  · intro h b hb
    by_cases hd : dg b = true
    · exact hd
    · have hm : b ∈ s.reverse.dropWhile dg := by
        have := List.takeWhile_append_dropWhile (p := dg) (l := s.reverse)
        have hb' : b ∈ s.reverse := by simpa using hb
        rw [← this, List.mem_append] at hb'
        rcases hb' with h1 | h1
        · exact absurd (takeWhile_all dg _ _ h1) hd
        · exact h1
      exact h b (by simpa using hm)
  · intro h b hb
    refine h b ?_
    have : b ∈ s.reverse.dropWhile dg := by simpa using hb
    have := (List.dropWhile_sublist (p := dg) (l := s.reverse)).mem this
    simpa using this

def numB (s : List UInt8) : Bool := !decide (s = []) && s.all dg

theorem c_number (w₀ : World) (h : AHeap) (s : List UInt8) (hl : s.length ≤ 9223372036854775807) : ACall Tryz.prog w₀ 44 [.str s] h (fun v h' => v = .bool (numB s) ∧ h' = h) := by
  refine acall_intro (n := 10) (rs := [.tmp 2]) Tryz.func44 rfl rfl rfl rfl (Nat.le_of_ble_eq_true rfl) ?_
  simp only [initSlots]
  -- region 0  decimals.go:32
  refine awp_rseq [0] (by rfl) fun K hK => ?_
  simp (decide := true) only [aOps_nil, ev, absV, absS, putD, Slots.put, Slots.keep, if_true, if_false, true_and, ↓ap_assign, pop_assign]
  repeat (with_reducible refine And.intro ?_ ?_; · first | trivial | omega | (intro hg; simp only [Bool.and_eq_true, Bool.or_eq_true, Bool.not_eq_true', Bool.and_eq_false_iff, Bool.or_eq_false_iff, Bool.not_eq_false', decide_eq_true_eq, decide_eq_false_iff_not, eqNil] at hg; omega) )
  apply hK; clear hK K
  -- region 1  decimals.go:32
  refine awp_rseq [2] (by rfl) fun K hK => ?_
  simp (decide := true) only [ev, absV, absS, putD, Slots.put, Slots.get, if_true, if_false, true_and, ↓ap_move, pop_move, ↓ap_binOp, pop_binOp, isNilC_str, cond_false, pBinX_str, pS_neq, ↓ag_move, agP, agQ_some, nthDst, gKnown_bool, guardB_bool_true, implies_true]
  repeat (with_reducible refine And.intro ?_ ?_; · first | trivial | omega | (intro hg; simp only [Bool.and_eq_true, Bool.or_eq_true, Bool.not_eq_true', Bool.and_eq_false_iff, Bool.or_eq_false_iff, Bool.not_eq_false', decide_eq_true_eq, decide_eq_false_iff_not, eqNil] at hg; omega) )
  first
  | (refine aOps_yes (by rfl) ?_; refine aOps_callV (V := .str ((s.reverse.dropWhile dg).reverse.dropWhile dg)) (by rfl) (by rfl) (c_trimD w₀ _ s hl) ?_)
  | (refine aOps_gcall (V := .str ((s.reverse.dropWhile dg).reverse.dropWhile dg)) (f := _) (cap := _) (xs := _) rfl (fun hg => ⟨rfl, ?_⟩) (fun hg => c_trimD w₀ _ s hl) ?_; · (simp (decide := true) only [gv, nthDst, Slots.get, if_true, if_false, guardB_bool_true] at hg; simp (decide := true) only [evs, ev, Slots.get, if_true, if_false, hg, condV_true, List.append_nil, List.map_cons, List.map_nil, absV, absS] <;> try rfl))
  simp (decide := true) only [aOps_nil, ev, absV, absS, putD, Slots.put, Slots.get, Slots.keep, if_true, if_false, true_and, gv, nthDst, guardB_bool_true, ↓ag_binOp, pop_binOp, agP, agQ_some, gKnown_bool, implies_true, isNilC_str, cond_false, cv_binl, cp_binl, pBinX_str, pS_eql, ↓ap_pick, pop_pick, pPick_bool, pickV_cond_l, pickV_and, ↓ap_assign, pop_assign]
  repeat (with_reducible refine And.intro ?_ ?_; · first | trivial | omega | (intro hg; simp only [Bool.and_eq_true, Bool.or_eq_true, Bool.not_eq_true', Bool.and_eq_false_iff, Bool.or_eq_false_iff, Bool.not_eq_false', decide_eq_true_eq, decide_eq_false_iff_not, eqNil] at hg; omega) )
  apply hK; clear hK K
  refine awp_ret ?_
  try simp only [thenA_ret, inBlockA_ret]
  refine retA_ret _ (Sub.refl _) (resPre_tmp (resPre_nil)) ?_
  simp (decide := true) only [Slots.get, if_true, and_true, resOf_one]
  rw [trimD_nil]; rfl

/-! ### Contracts of the shelf -/
theorem c_trimLeft0 (w₀ : World) (h : AHeap) (s : List UInt8) (c : UInt8) (hc : c.toNat < 128) : ACall Tryz.prog w₀ 56 [.str s, .str [c]] h (fun v h' => v = .str (s.dropWhile (· == c)) ∧ h' = h) := by
  refine acall_of_calls (vals := [.string ⟨⟨s⟩⟩, .string ⟨⟨[c]⟩⟩]) (val := .string ⟨⟨s.dropWhile (· == c)⟩⟩) Tryz.func56 rfl rfl (fun φ vs hv => VRs_ss hv) (fun φ => rfl) fun w => ?_
  refine (Tryz.strings_TrimLeft_one ⟨⟨s⟩⟩ c hc w).mono fun e w' ⟨e1, e2⟩ => ⟨e1, ?_⟩
  subst e2; exact Go.RowKit.Below.refl _ _
theorem c_trim0 (w₀ : World) (h : AHeap) (s : List UInt8) (c : UInt8) (hc : c.toNat < 128) (hl : s.length ≤ 9223372036854775807) : ACall Tryz.prog w₀ 57 [.str s, .str [c]] h (fun v h' => v = .str (Go.Lib.trimB s c) ∧ h' = h) := by
  refine acall_of_calls (vals := [.string ⟨⟨s⟩⟩, .string ⟨⟨[c]⟩⟩]) (val := .string ⟨⟨Go.Lib.trimB s c⟩⟩) Tryz.func57 rfl rfl (fun φ vs hv => VRs_ss hv) (fun φ => rfl) fun w => ?_
  refine (Tryz.strings_Trim_one ⟨⟨s⟩⟩ c hc w hl).mono fun e w' ⟨e1, e2⟩ => ⟨e1, ?_⟩
  rcases e2 with e2 | e2
  · subst e2; exact Go.RowKit.Below.refl _ _
  · subst e2; exact (Go.RowKit.Below.refl _ _).drew
theorem c_hasSuffix (w₀ : World) (h : AHeap) (s p : List UInt8) (hl : s.length ≤ 9223372036854775807) : ACall Tryz.prog w₀ 66 [.str s, .str p] h (fun v h' => v = .bool (p.isSuffixOf s) ∧ h' = h) := by
  refine acall_of_calls (vals := [.string ⟨⟨s⟩⟩, .string ⟨⟨p⟩⟩]) (val := .bool (p.isSuffixOf s)) Tryz.func66 rfl rfl (fun φ vs hv => VRs_ss hv) (fun φ => rfl) fun w => ?_
  refine (Tryz.strings_HasSuffix ⟨⟨s⟩⟩ ⟨⟨p⟩⟩ w hl).mono fun e w' ⟨e1, e2⟩ => ⟨e1, ?_⟩
  subst e2; exact Go.RowKit.Below.refl _ _
theorem repeatL_one (b : UInt8) : ∀ n, Go.Lib.repeatL [b] n = List.replicate n b
  | 0 => rfl
  | n + 1 => by
    rw [Go.Lib.repeatL, repeatL_one b n]
    simp [List.replicate_succ]
theorem c_repeat (w₀ : World) (h : AHeap) (b : UInt8) (n : Nat) (hn : n ≤ 140737488355328) : ACall Tryz.prog w₀ 53 [.str [b], .int .i64 n] h (fun v h' => v = .str (List.replicate n b) ∧ h' = h) := by
  refine acall_of_calls (vals := [.string ⟨⟨[b]⟩⟩, .int .i64 n]) (val := .string ⟨⟨List.replicate n b⟩⟩) Tryz.func53 rfl rfl (fun φ vs hv => VRs_si hv) (fun φ => rfl) fun w => ?_
  have := Tryz.strings_Repeat ⟨⟨[b]⟩⟩ n w (by omega) (by show 1 * n ≤ _; omega)
  rw [show (⟨⟨[b]⟩⟩ : ByteArray).data.toList = [b] from rfl, repeatL_one] at this
  exact this
theorem c_trimPrefix (w₀ : World) (h : AHeap) (s p : List UInt8) : ACall Tryz.prog w₀ 42 [.str s, .str p] h (fun v h' => v = .str (Go.Lib.trimPrefix s p) ∧ h' = h) := by
  refine acall_of_calls (vals := [.string ⟨⟨s⟩⟩, .string ⟨⟨p⟩⟩]) (val := .string ⟨⟨Go.Lib.trimPrefix s p⟩⟩) Tryz.func42 rfl rfl (fun φ vs hv => VRs_ss hv) (fun φ => rfl) fun w => ?_
  refine (Tryz.strings_TrimPrefix ⟨⟨s⟩⟩ ⟨⟨p⟩⟩ w).mono fun e w' ⟨e1, e2⟩ => ⟨e1, ?_⟩
  subst e2; exact Go.RowKit.Below.refl _ _
theorem c_cutPrefix (w₀ : World) (h : AHeap) (s p : List UInt8) : ACall Tryz.prog w₀ 41 [.str s, .str p] h (fun v h' => v = .tuple [.str (Go.Lib.trimPrefix s p), .bool (p.isPrefixOf s)] ∧ h' = h) := by
  refine acall_of_calls (vals := [.string ⟨⟨s⟩⟩, .string ⟨⟨p⟩⟩]) (val := .tuple #[.string ⟨⟨Go.Lib.trimPrefix s p⟩⟩, .bool (p.isPrefixOf s)]) Tryz.func41 rfl rfl (fun φ vs hv => VRs_ss hv) (fun φ => ?_) fun w => ?_
  · simp only [VR]
    refine ⟨_, rfl, ?_⟩
    simp only [VRs]
    exact ⟨_, _, rfl, by simp only [VR], _, _, rfl, by simp only [VR], rfl⟩
  · refine (Tryz.strings_CutPrefix ⟨⟨s⟩⟩ ⟨⟨p⟩⟩ w).mono fun e w' ⟨e1, e2⟩ => ⟨e1, ?_⟩
    subst e2; exact Go.RowKit.Below.refl _ _
end Go.Proofs.YthiiakghjoeikaaGreatDoor
