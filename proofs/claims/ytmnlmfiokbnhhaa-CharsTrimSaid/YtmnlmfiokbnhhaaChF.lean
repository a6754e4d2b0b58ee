/-
  Contracts of the functions of the package chars: Fill.
  Conditions: none.
-/
import Derived.Test.YtmnlmfiokbnhhaaChE
set_option linter.unusedSimpArgs false
set_option linter.unusedVariables false
namespace Go.Proofs.Ytmnlmfiokbnhhaa
open Go.AM
open Go.Proofs
set_option maxRecDepth 100000

/-- n bytes that repeat a text; the first i of them are written. -/
def fillTo (bs : List UInt8) (n i : Nat) : List UInt8 := (List.range n).map fun j => if j < i then bs.getD (j % bs.length) 0 else 0
def fillB (bs : List UInt8) (n : Nat) : List UInt8 := fillTo bs n n

theorem fillTo_length (bs : List UInt8) (n i : Nat) : (fillTo bs n i).length = n := by simp [fillTo]
theorem fillTo_zero (bs : List UInt8) (n : Nat) : fillTo bs n 0 = List.replicate n 0 := by
  apply List.ext_getElem?
  intro j
  by_cases hj : j < n <;> simp [fillTo, List.getElem?_replicate, hj]
theorem fillTo_succ (bs : List UInt8) (n i : Nat) (hi : i < n) : (fillTo bs n i).set i (bs.getD (i % bs.length) 0) = fillTo bs n (i + 1) := by
  apply List.ext_getElem?
  intro j
  rw [List.getElem?_set]
  by_cases hj : i = j
  · subst hj
    simp [fillTo, hi]
  · simp only [hj, if_false, fillTo, List.getElem?_map]
    by_cases hjn : j < n
    · have e : (j < i) = (j < i + 1) := by apply propext; omega
      rw [List.getElem?_range hjn]
      simp only [Option.map_some, e]
    · rw [List.getElem?_eq_none (by simp; omega)]
      rfl

theorem tmod_nat (i n : Nat) : (i : Int).tmod (n : Int) = ((i % n : Nat) : Int) := rfl

def fillOut (bs : List UInt8) (n : Int) (h : AHeap) (v : AVal) (h' : AHeap) : Prop :=
  (n < 0 ∧ v = .tuple [.nilSlice, .int .i64 1] ∧ h' = h) ∨ (1048576 < n ∧ v = .tuple [.nilSlice, .int .i64 3] ∧ h' = h) ∨ (0 < n ∧ n ≤ 1048576 ∧ bs = [] ∧ v = .tuple [.nilSlice, .int .i64 5] ∧ h' = h) ∨
  (0 ≤ n ∧ n ≤ 1048576 ∧ (bs = [] → n = 0) ∧ ∃ k, h k = none ∧ v = .tuple [.slice (.own k) 0 n.toNat (.exact n.toNat), .int .i64 0] ∧ h' = h.set k ⟨byteCells (fillB bs n.toNat), 0⟩)

theorem c_fill (w₀ : World) (h : AHeap) (v : AVal) (bs : List UInt8) (n : Int) (hb : IsB w₀ h v bs) : ACall Try.prog w₀ 16 [v, .int .i64 n] h (fillOut bs n h) := by
  refine acall_intro (n := 39) (rs := [.tmp 4, .tmp 5]) Try.func16 rfl rfl rfl rfl (Nat.le_of_ble_eq_true rfl) ?_
  simp only [initSlots]
  -- region 0  chars.go:87
  refine awp_rseq [0, 1] (by rfl) fun K hK => ?_
  simp (decide := true) only [aOps_nil, ev, absV, absS, putD, Slots.put, Slots.get, Slots.keep, if_true, if_false, List.contains_cons, List.contains_nil, true_and, and_true, ↓ap_assign, pop_assign, hb.len Try.underlying25]
  repeat (with_reducible refine And.intro ?_ ?_; · first | trivial | omega | (intro hg; simp only [Bool.and_eq_true, Bool.or_eq_true, Bool.not_eq_true', Bool.and_eq_false_iff, Bool.or_eq_false_iff, Bool.not_eq_false', decide_eq_true_eq, decide_eq_false_iff_not, eqNil] at hg; omega))
  apply hK; clear hK K
  refine awp_seq ?_
  -- region 1  chars.go:88
  refine awp_rseq [0, 1, 6] (by rfl) fun K hK => ?_
  simp (decide := true) only [aOps_nil, ev, absV, absS, putD, Slots.put, Slots.get, Slots.keep, if_true, if_false, List.contains_cons, List.contains_nil, true_and, and_true, ↓ap_move, pop_move, hb.len Try.underlying25]
  repeat (with_reducible refine And.intro ?_ ?_; · first | trivial | omega | (intro hg; simp only [Bool.and_eq_true, Bool.or_eq_true, Bool.not_eq_true', Bool.and_eq_false_iff, Bool.or_eq_false_iff, Bool.not_eq_false', decide_eq_true_eq, decide_eq_false_iff_not, eqNil] at hg; omega))
  refine aOps_callV (V := .int .i64 (if n < 0 then 1 else if 1048576 < n then 3 else 0)) (by rfl) (by rfl) (c_size w₀ h n) ?_
  simp (decide := true) only [aOps_nil, ev, absV, absS, putD, Slots.put, Slots.get, Slots.keep, if_true, if_false, List.contains_cons, List.contains_nil, true_and, and_true, ↓ap_assign, pop_assign, hb.len Try.underlying25]
  repeat (with_reducible refine And.intro ?_ ?_; · first | trivial | omega | (intro hg; simp only [Bool.and_eq_true, Bool.or_eq_true, Bool.not_eq_true', Bool.and_eq_false_iff, Bool.or_eq_false_iff, Bool.not_eq_false', decide_eq_true_eq, decide_eq_false_iff_not, eqNil] at hg; omega))
  apply hK; clear hK K
  -- region 2  chars.go:88
  refine awp_rseq [0, 1, 6, 12] (by rfl) fun K hK => ?_
  simp (decide := true) only [aOps_nil, ev, absV, absS, putD, Slots.put, Slots.get, Slots.keep, if_true, if_false, List.contains_cons, List.contains_nil, true_and, and_true, ↓ap_move, pop_move, ↓ap_binOp, pop_binOp, pBinX_int, pI_neq, hb.len Try.underlying25]
  repeat (with_reducible refine And.intro ?_ ?_; · first | trivial | omega | (intro hg; simp only [Bool.and_eq_true, Bool.or_eq_true, Bool.not_eq_true', Bool.and_eq_false_iff, Bool.or_eq_false_iff, Bool.not_eq_false', decide_eq_true_eq, decide_eq_false_iff_not, eqNil] at hg; omega))
  apply hK; clear hK K
  refine awp_cond (b := _) rfl (fun hb1 => ?_) (fun hb1 => ?_)
  · try simp only [decide_eq_true_eq, decide_eq_false_iff_not, Bool.not_eq_true', Bool.not_eq_false', Bool.and_eq_true, Bool.and_eq_false_iff, Bool.or_eq_true, Bool.or_eq_false_iff, Bool.true_eq, Bool.false_eq, reduceCtorEq] at hb1
    -- region 3  chars.go:89
    refine awp_rseq [4, 5] (by rfl) fun K hK => ?_
    simp (decide := true) only [aOps_nil, ev, absV, absS, putD, Slots.put, Slots.get, Slots.keep, if_true, if_false, List.contains_cons, List.contains_nil, true_and, and_true, ↓ap_move, pop_move, ↓ap_assign, pop_assign, hb.len Try.underlying25]
    repeat (with_reducible refine And.intro ?_ ?_; · first | trivial | omega | (intro hg; simp only [Bool.and_eq_true, Bool.or_eq_true, Bool.not_eq_true', Bool.and_eq_false_iff, Bool.or_eq_false_iff, Bool.not_eq_false', decide_eq_true_eq, decide_eq_false_iff_not, eqNil] at hg; omega))
    apply hK; clear hK K
    refine awp_ret ?_
    try simp only [thenA_ret, inBlockA_ret]
    refine retA_ret _ (Sub.refl _) (resPre_tmp (resPre_tmp (resPre_nil))) ?_
    simp (decide := true) only [aOps_nil, ev, absV, absS, putD, Slots.put, Slots.get, Slots.keep, if_true, if_false, List.contains_cons, List.contains_nil, true_and, and_true, resOf_two, hb.len Try.underlying25]
    by_cases hn : n < 0
    · exact .inl ⟨hn, by simp [hn], rfl⟩
    · by_cases hn' : 1048576 < n
      · exact .inr (.inl ⟨hn', by simp [hn, hn'], rfl⟩)
      · simp [hn, hn'] at hb1
  · try simp only [decide_eq_true_eq, decide_eq_false_iff_not, Bool.not_eq_true', Bool.not_eq_false', Bool.and_eq_true, Bool.and_eq_false_iff, Bool.or_eq_true, Bool.or_eq_false_iff, Bool.true_eq, Bool.false_eq, reduceCtorEq] at hb1
    have hn : 0 ≤ n ∧ n ≤ 1048576 := by
      split at hb1
      · cases hb1
      · split at hb1
        · cases hb1
        · omega
    obtain ⟨N, rfl⟩ : ∃ N : Nat, n = N := ⟨n.toNat, by omega⟩
    refine awp_skip ?_
    change Awp _ _ _ _ _ _ _
    refine awp_seq ?_
    -- region 4  chars.go:91
    refine awp_rseq [0, 1, 20] (by rfl) fun K hK => ?_
    simp (decide := true) only [aOps_nil, ev, absV, absS, putD, Slots.put, Slots.get, Slots.keep, if_true, if_false, List.contains_cons, List.contains_nil, true_and, and_true, ↓ap_move, pop_move, ↓ap_len, pop_len, pLen_slice Try.underlying25, pLen_nil Try.underlying25, ↓ap_binOp, pop_binOp, pBinX_int, pI_eql, ↓ag_move, agP, agQ_some, gv, nthDst, gKnown_bool, gKnown_cond, guardB_cond, guardB_bool_true, guardB_bool_false, cv_cv, implies_true, Bool.not_not, decide_true, decide_false, Bool.not_false, Bool.not_true, condV_true, condV_false, forall_const, Bool.and_true, Bool.and_false, Bool.true_and, Bool.false_and, Bool.or_true, Bool.or_false, Bool.true_or, Bool.false_or, ↓ag_binOp, cv_binl, cv_binr, cp_binl, cp_binr, pI_gtr, ↓ap_pick, pop_pick, pPick_bool, pickV_cond_l, pickV_cond_r, pickV_cond_rn, cp_nest1, cp_nest2, cp_nest3, cp_nest4, pickV_and, pickV_or, hb.len Try.underlying25]
    repeat (with_reducible refine And.intro ?_ ?_; · first | trivial | omega | (intro hg; simp only [Bool.and_eq_true, Bool.or_eq_true, Bool.not_eq_true', Bool.and_eq_false_iff, Bool.or_eq_false_iff, Bool.not_eq_false', decide_eq_true_eq, decide_eq_false_iff_not, eqNil] at hg; omega))
    apply hK; clear hK K
    refine awp_cond (b := _) rfl (fun hb2 => ?_) (fun hb2 => ?_)
    · try simp only [decide_eq_true_eq, decide_eq_false_iff_not, Bool.not_eq_true', Bool.not_eq_false', Bool.and_eq_true, Bool.and_eq_false_iff, Bool.or_eq_true, Bool.or_eq_false_iff, Bool.true_eq, Bool.false_eq, reduceCtorEq] at hb2
      -- region 5  chars.go:92
      refine awp_rseq [4, 5] (by rfl) fun K hK => ?_
      simp (decide := true) only [aOps_nil, ev, absV, absS, putD, Slots.put, Slots.get, Slots.keep, if_true, if_false, List.contains_cons, List.contains_nil, true_and, and_true, ↓ap_assign, pop_assign, hb.len Try.underlying25]
      repeat (with_reducible refine And.intro ?_ ?_; · first | trivial | omega | (intro hg; simp only [Bool.and_eq_true, Bool.or_eq_true, Bool.not_eq_true', Bool.and_eq_false_iff, Bool.or_eq_false_iff, Bool.not_eq_false', decide_eq_true_eq, decide_eq_false_iff_not, eqNil] at hg; omega))
      apply hK; clear hK K
      refine awp_ret ?_
      try simp only [thenA_ret, inBlockA_ret]
      refine retA_ret _ (Sub.refl _) (resPre_tmp (resPre_tmp (resPre_nil))) ?_
      simp (decide := true) only [aOps_nil, ev, absV, absS, putD, Slots.put, Slots.get, Slots.keep, if_true, if_false, List.contains_cons, List.contains_nil, true_and, and_true, resOf_two, hb.len Try.underlying25]
      exact .inr (.inr (.inl ⟨by omega, by omega, List.eq_nil_of_length_eq_zero (by omega), rfl, rfl⟩))
    · try simp only [decide_eq_true_eq, decide_eq_false_iff_not, Bool.not_eq_true', Bool.not_eq_false', Bool.and_eq_true, Bool.and_eq_false_iff, Bool.or_eq_true, Bool.or_eq_false_iff, Bool.true_eq, Bool.false_eq, reduceCtorEq] at hb2
      have hbs : N ≠ 0 → bs.length ≠ 0 := by omega
      refine awp_skip ?_
      change Awp _ _ _ _ _ _ _
      -- region 6  chars.go:94
      refine awp_rseq [0, 1, 7] (by rfl) fun K hK => ?_
      simp (decide := true) only [aOps_nil, ev, absV, absS, putD, Slots.put, Slots.get, Slots.keep, if_true, if_false, List.contains_cons, List.contains_nil, true_and, and_true, ↓ap_move, pop_move, hb.len Try.underlying25]
      repeat (with_reducible refine And.intro ?_ ?_; · first | trivial | omega | (intro hg; simp only [Bool.and_eq_true, Bool.or_eq_true, Bool.not_eq_true', Bool.and_eq_false_iff, Bool.or_eq_false_iff, Bool.not_eq_false', decide_eq_true_eq, decide_eq_false_iff_not, eqNil] at hg; omega))
      refine aOps_makeBytes Try.underlying25 sz5 by5 ze5 (by rfl) (by rfl) (by omega) (by omega) fun k6 hk6 => ?_
      simp (decide := true) only [aOps_nil, ev, absV, absS, putD, Slots.put, Slots.get, Slots.keep, if_true, if_false, List.contains_cons, List.contains_nil, true_and, and_true, ↓ap_assign, pop_assign, hb.len Try.underlying25]
      repeat (with_reducible refine And.intro ?_ ?_; · first | trivial | omega | (intro hg; simp only [Bool.and_eq_true, Bool.or_eq_true, Bool.not_eq_true', Bool.and_eq_false_iff, Bool.or_eq_false_iff, Bool.not_eq_false', decide_eq_true_eq, decide_eq_false_iff_not, eqNil] at hg; omega))
      apply hK; clear hK K
      refine awp_seq ?_
      -- region 7  chars.go:95
      refine awp_rseq [0, 7, 23, 24] (by rfl) fun K hK => ?_
      simp (decide := true) only [aOps_nil, ev, absV, absS, putD, Slots.put, Slots.get, Slots.keep, if_true, if_false, List.contains_cons, List.contains_nil, true_and, and_true, ↓ap_move, pop_move, hb.len Try.underlying25]
      repeat (with_reducible refine And.intro ?_ ?_; · first | trivial | omega | (intro hg; simp only [Bool.and_eq_true, Bool.or_eq_true, Bool.not_eq_true', Bool.and_eq_false_iff, Bool.or_eq_false_iff, Bool.not_eq_false', decide_eq_true_eq, decide_eq_false_iff_not, eqNil] at hg; omega))
      apply hK; clear hK K
      refine awp_block ?_
      refine awp_loopG [0, 7, 23, 24] (fun i : Nat => [(0, v), (7, .slice (.own k6) 0 N (.exact N)), (23, .int .i64 N), (24, .int .i64 i)]) (fun i : Nat => h.set k6 ⟨byteCells (fillTo bs N i), 0⟩) (fun i : Nat => i ≤ N) (fun i : Nat => N - i) 0 rfl (by rw [fillTo_zero]; exact Sub.refl _) (Nat.zero_le _) ?_
      rintro i hi1
      have hlen := fillTo_length bs N i
      -- region 8  chars.go:95
      refine awp_rseq [0, 7, 23, 24, 25] (by rfl) fun K hK => ?_
      simp (decide := true) only [aOps_nil, ev, absV, absS, putD, Slots.put, Slots.get, Slots.keep, if_true, if_false, List.contains_cons, List.contains_nil, true_and, and_true, ↓ap_binOp, pop_binOp, pBinX_int, pI_lss, hb.len Try.underlying25]
      repeat (with_reducible refine And.intro ?_ ?_; · first | trivial | omega | (intro hg; simp only [Bool.and_eq_true, Bool.or_eq_true, Bool.not_eq_true', Bool.and_eq_false_iff, Bool.or_eq_false_iff, Bool.not_eq_false', decide_eq_true_eq, decide_eq_false_iff_not, eqNil] at hg; omega))
      apply hK; clear hK K
      refine awp_seq (awp_cond (b := _) rfl (fun hb3 => ?_) (fun hb3 => ?_))
      · try simp only [decide_eq_true_eq, decide_eq_false_iff_not, Bool.not_eq_true', Bool.not_eq_false', Bool.and_eq_true, Bool.and_eq_false_iff, Bool.or_eq_true, Bool.or_eq_false_iff, Bool.true_eq, Bool.false_eq, reduceCtorEq] at hb3
        refine awp_skip ?_
        change Awp _ _ _ _ _ _ _
        refine awp_seq ?_
        refine awp_block ?_
        -- region 9  chars.go:95
        refine awp_rseq [0, 7, 8, 23, 24] (by rfl) fun K hK => ?_
        simp (decide := true) only [aOps_nil, ev, absV, absS, putD, Slots.put, Slots.get, Slots.keep, if_true, if_false, List.contains_cons, List.contains_nil, true_and, and_true, ↓ap_move, pop_move, ↓ap_assign, pop_assign, hb.len Try.underlying25]
        repeat (with_reducible refine And.intro ?_ ?_; · first | trivial | omega | (intro hg; simp only [Bool.and_eq_true, Bool.or_eq_true, Bool.not_eq_true', Bool.and_eq_false_iff, Bool.or_eq_false_iff, Bool.not_eq_false', decide_eq_true_eq, decide_eq_false_iff_not, eqNil] at hg; omega))
        apply hK; clear hK K
        -- region 10  chars.go:96
        refine awp_r [0, 7, 23, 24] (by rfl) ?_
        simp (decide := true) only [aOps_nil, ev, absV, absS, putD, Slots.put, Slots.get, Slots.keep, if_true, if_false, List.contains_cons, List.contains_nil, true_and, and_true, ↓ap_move, pop_move, ↓ap_len, pop_len, pLen_slice Try.underlying25, pLen_nil Try.underlying25, ↓ap_binOp, pop_binOp, pBinX_int, pI_rem, ↓ap_indexAddrL, apL_mk, pIndexAddr_slice Try.underlying25 sz5, ↓ap_loadL, pLoad_one ag5, hb.len Try.underlying25, hb.idx Try.underlying25 sz5, tmod_nat, Int.toNat_natCast, (hb.mono (Sub.set hk6)).load ag5 (i := i % bs.length) (Nat.mod_lt _ (by omega))]
        have hm := Nat.mod_lt i (show bs.length > 0 by omega)
        repeat (with_reducible refine And.intro ?_ ?_; · first | trivial | omega)
        refine aOps_storeU8 (i := i) (by rfl) (by rfl) sz5 (by rfl) (by omega) (by omega) (Nat.zero_le _) ?_
        simp (decide := true) only [aOps_nil, ev, absV, absS, putD, Slots.put, Slots.get, Slots.keep, if_true, if_false, List.contains_cons, List.contains_nil, true_and, and_true, hb.len Try.underlying25, hb.idx Try.underlying25 sz5, tmod_nat, Int.toNat_natCast, (hb.mono (Sub.set hk6)).load ag5 (i := i % bs.length) (Nat.mod_lt _ (by omega))]
        repeat (with_reducible refine And.intro ?_ ?_; · first | trivial | omega | (intro hg; simp only [Bool.and_eq_true, Bool.or_eq_true, Bool.not_eq_true', Bool.and_eq_false_iff, Bool.or_eq_false_iff, Bool.not_eq_false', decide_eq_true_eq, decide_eq_false_iff_not, eqNil] at hg; omega))
        change Awp _ _ _ _ _ _ _
        -- region 11  chars.go:95
        refine awp_r [0, 7, 23, 24] (by rfl) ?_
        simp (decide := true) only [aOps_nil, ev, absV, absS, putD, Slots.put, Slots.get, Slots.keep, if_true, if_false, List.contains_cons, List.contains_nil, true_and, and_true, ↓ap_binOp, pop_binOp, pBinX_int, pI_add, ↓ap_move, pop_move, hb.len Try.underlying25]
        try simp (disch := omega) only [wrap_i64, wrap_u8]
        repeat (with_reducible refine And.intro ?_ ?_; · first | trivial | omega | (intro hg; simp only [Bool.and_eq_true, Bool.or_eq_true, Bool.not_eq_true', Bool.and_eq_false_iff, Bool.or_eq_false_iff, Bool.not_eq_false', decide_eq_true_eq, decide_eq_false_iff_not, eqNil] at hg; omega))
        try simp only [thenA_normal, inBlockA_normal]
        refine ⟨i + 1, rfl, ?_, by omega, by omega⟩
        rw [fillTo_succ bs N i (by omega)]
        exact Sub.refl _
      · try simp only [decide_eq_true_eq, decide_eq_false_iff_not, Bool.not_eq_true', Bool.not_eq_false', Bool.and_eq_true, Bool.and_eq_false_iff, Bool.or_eq_true, Bool.or_eq_false_iff, Bool.true_eq, Bool.false_eq, reduceCtorEq] at hb3
        refine awp_exit ?_
        change Awp _ _ _ _ _ _ _
        -- region 12  chars.go:98
        refine awp_rseq [4, 5] (by rfl) fun K hK => ?_
        simp (decide := true) only [aOps_nil, ev, absV, absS, putD, Slots.put, Slots.get, Slots.keep, if_true, if_false, List.contains_cons, List.contains_nil, true_and, and_true, ↓ap_move, pop_move, ↓ap_assign, pop_assign, hb.len Try.underlying25]
        repeat (with_reducible refine And.intro ?_ ?_; · first | trivial | omega | (intro hg; simp only [Bool.and_eq_true, Bool.or_eq_true, Bool.not_eq_true', Bool.and_eq_false_iff, Bool.or_eq_false_iff, Bool.not_eq_false', decide_eq_true_eq, decide_eq_false_iff_not, eqNil] at hg; omega))
        apply hK; clear hK K
        refine awp_ret ?_
        try simp only [thenA_ret, inBlockA_ret]
        refine retA_ret _ (Sub.refl _) (resPre_tmp (resPre_tmp (resPre_nil))) ?_
        simp (decide := true) only [aOps_nil, ev, absV, absS, putD, Slots.put, Slots.get, Slots.keep, if_true, if_false, List.contains_cons, List.contains_nil, true_and, and_true, resOf_two, hb.len Try.underlying25]
        refine .inr (.inr (.inr ⟨by omega, by omega, fun e => ?_, k6, hk6, rfl, ?_⟩))
        · subst e; simp at hbs; omega
        · rw [show i = N by omega]; rfl
end Go.Proofs.Ytmnlmfiokbnhhaa
