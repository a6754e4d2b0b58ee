/-
  Contracts: strings.Repeat at one space, and Fit of the package chars.
  Conditions: none.
-/
import Derived.Test.YtmnlmfiokbnhhaaChF
import Derived.Test.YtmnlmfiokbnhhaaShelf
set_option linter.unusedSimpArgs false
set_option linter.unusedVariables false
namespace Go.Proofs.Ytmnlmfiokbnhhaa
open Go.AM
open Go.Proofs
set_option maxRecDepth 100000

theorem repeatL_one (b : UInt8) : ∀ n, Go.Lib.repeatL [b] n = List.replicate n b
  | 0 => rfl
  | n + 1 => by
    rw [Go.Lib.repeatL, repeatL_one b n]
    simp [List.replicate_succ]

theorem c_repeat (w₀ : World) (h : AHeap) (b : UInt8) (n : Nat) (hn : n ≤ 1048576) : ACall Try.prog w₀ 26 [.str [b], .int .i64 n] h (fun v h' => v = .str (List.replicate n b) ∧ h' = h) := by
  refine acall_of_calls (vals := [.string ⟨⟨[b]⟩⟩, .int .i64 n]) (val := .string ⟨⟨List.replicate n b⟩⟩) Try.func26 rfl rfl (fun φ vs hv => VRs_si hv) (fun φ => rfl) fun w => ?_
  have := Try.strings_Repeat ⟨⟨[b]⟩⟩ n w (by omega) (by show 1 * n ≤ _; omega)
  rw [show (⟨⟨[b]⟩⟩ : ByteArray).data.toList = [b] from rfl, repeatL_one] at this
  exact this

/-- What Fit makes. -/
def fitB (bs : List UInt8) (n : Nat) (left : Bool) : List UInt8 :=
  bif left then setAt (List.replicate n 32) (n - bs.length) (bs.drop (bs.length - n)) else setAt (List.replicate n 32) 0 (bs.take n)

theorem setAt_all {α : Type} : ∀ (n : Nat) (x y : α) (zs : List α), setAt (zs ++ List.replicate n x) zs.length (List.replicate n y) = zs ++ List.replicate n y
  | 0, _, _, _ => rfl
  | n + 1, x, y, zs => by
    simp only [List.replicate_succ, setAt]
    have e : (zs ++ x :: List.replicate n x).set zs.length y = (zs ++ [y]) ++ List.replicate n x := by
      rw [List.set_append_right _ _ (Nat.le_refl _)]
      simp
    rw [e]
    have := setAt_all n x y (zs ++ [y])
    simp only [List.length_append, List.length_cons, List.length_nil] at this
    rw [Nat.zero_add] at this
    rw [this]
    simp

theorem fit_init (n : Nat) : setAt (List.replicate n (0 : UInt8)) 0 ((List.replicate n (32 : UInt8)).take n) = List.replicate n 32 := by
  have := setAt_all n (0 : UInt8) 32 []
  rw [List.take_of_length_le (by simp)]
  simpa using this

def fitOut (bs : List UInt8) (n : Int) (left : Bool) (h : AHeap) (v : AVal) (h' : AHeap) : Prop :=
  (n < 0 ∧ v = .tuple [.nilSlice, .int .i64 1] ∧ h' = h) ∨ (1048576 < n ∧ v = .tuple [.nilSlice, .int .i64 3] ∧ h' = h) ∨
  (0 ≤ n ∧ n ≤ 1048576 ∧ ∃ k, h k = none ∧ v = .tuple [.slice (.own k) 0 n.toNat (.exact n.toNat), .int .i64 0] ∧ h' = h.set k ⟨byteCells (fitB bs n.toNat left), 0⟩)

theorem c_fit (w₀ : World) (h : AHeap) (v : AVal) (bs : List UInt8) (n : Int) (left : Bool) (hb : IsB w₀ h v bs) (hl : bs.length ≤ 9223372036854775807) : ACall Try.prog w₀ 13 [v, .int .i64 n, .bool left] h (fitOut bs n left h) := by
  refine acall_intro (n := 41) (rs := [.tmp 6, .tmp 7]) Try.func13 rfl rfl rfl rfl (Nat.le_of_ble_eq_true rfl) ?_
  simp only [initSlots]
  -- region 0  chars.go:102
  refine awp_rseq [0, 1, 2] (by rfl) fun K hK => ?_
  simp (decide := true) only [aOps_nil, ev, absV, absS, putD, Slots.put, Slots.get, Slots.keep, if_true, if_false, List.contains_cons, List.contains_nil, true_and, and_true, ↓ap_assign, pop_assign, hb.len Try.underlying25]
  repeat (with_reducible refine And.intro ?_ ?_; · first | trivial | omega | (intro hg; simp only [Bool.and_eq_true, Bool.or_eq_true, Bool.not_eq_true', Bool.and_eq_false_iff, Bool.or_eq_false_iff, Bool.not_eq_false', decide_eq_true_eq, decide_eq_false_iff_not, eqNil] at hg; omega))
  apply hK; clear hK K
  refine awp_seq ?_
  -- region 1  chars.go:103
  refine awp_rseq [0, 1, 2, 8] (by rfl) fun K hK => ?_
  simp (decide := true) only [aOps_nil, ev, absV, absS, putD, Slots.put, Slots.get, Slots.keep, if_true, if_false, List.contains_cons, List.contains_nil, true_and, and_true, ↓ap_move, pop_move, hb.len Try.underlying25]
  repeat (with_reducible refine And.intro ?_ ?_; · first | trivial | omega | (intro hg; simp only [Bool.and_eq_true, Bool.or_eq_true, Bool.not_eq_true', Bool.and_eq_false_iff, Bool.or_eq_false_iff, Bool.not_eq_false', decide_eq_true_eq, decide_eq_false_iff_not, eqNil] at hg; omega))
  refine aOps_callV (V := .int .i64 (if n < 0 then 1 else if 1048576 < n then 3 else 0)) (by rfl) (by rfl) (c_size w₀ h n) ?_
  simp (decide := true) only [aOps_nil, ev, absV, absS, putD, Slots.put, Slots.get, Slots.keep, if_true, if_false, List.contains_cons, List.contains_nil, true_and, and_true, ↓ap_assign, pop_assign, hb.len Try.underlying25]
  repeat (with_reducible refine And.intro ?_ ?_; · first | trivial | omega | (intro hg; simp only [Bool.and_eq_true, Bool.or_eq_true, Bool.not_eq_true', Bool.and_eq_false_iff, Bool.or_eq_false_iff, Bool.not_eq_false', decide_eq_true_eq, decide_eq_false_iff_not, eqNil] at hg; omega))
  apply hK; clear hK K
  -- region 2  chars.go:103
  refine awp_rseq [0, 1, 2, 8, 13] (by rfl) fun K hK => ?_
  simp (decide := true) only [aOps_nil, ev, absV, absS, putD, Slots.put, Slots.get, Slots.keep, if_true, if_false, List.contains_cons, List.contains_nil, true_and, and_true, ↓ap_move, pop_move, ↓ap_binOp, pop_binOp, pBinX_int, pI_neq, hb.len Try.underlying25]
  repeat (with_reducible refine And.intro ?_ ?_; · first | trivial | omega | (intro hg; simp only [Bool.and_eq_true, Bool.or_eq_true, Bool.not_eq_true', Bool.and_eq_false_iff, Bool.or_eq_false_iff, Bool.not_eq_false', decide_eq_true_eq, decide_eq_false_iff_not, eqNil] at hg; omega))
  apply hK; clear hK K
  refine awp_cond (b := _) rfl (fun hb1 => ?_) (fun hb1 => ?_)
  · try simp only [decide_eq_true_eq, decide_eq_false_iff_not, Bool.not_eq_true', Bool.not_eq_false', Bool.and_eq_true, Bool.and_eq_false_iff, Bool.or_eq_true, Bool.or_eq_false_iff, Bool.true_eq, Bool.false_eq, reduceCtorEq] at hb1
    -- region 3  chars.go:104
    refine awp_rseq [6, 7] (by rfl) fun K hK => ?_
    simp (decide := true) only [aOps_nil, ev, absV, absS, putD, Slots.put, Slots.get, Slots.keep, if_true, if_false, List.contains_cons, List.contains_nil, true_and, and_true, ↓ap_move, pop_move, ↓ap_assign, pop_assign, hb.len Try.underlying25]
    repeat (with_reducible refine And.intro ?_ ?_; · first | trivial | omega | (intro hg; simp only [Bool.and_eq_true, Bool.or_eq_true, Bool.not_eq_true', Bool.and_eq_false_iff, Bool.or_eq_false_iff, Bool.not_eq_false', decide_eq_true_eq, decide_eq_false_iff_not, eqNil] at hg; omega))
    apply hK; clear hK K
    refine awp_ret ?_
    try simp only [thenA_ret, inBlockA_ret]
    refine retA_ret _ (Sub.refl _) (resPre_tmp (resPre_tmp (resPre_nil))) ?_
    simp (decide := true) only [aOps_nil, ev, absV, absS, putD, Slots.put, Slots.get, Slots.keep, if_true, if_false, List.contains_cons, List.contains_nil, true_and, and_true, resOf_two, hb.len Try.underlying25]
    by_cases hn : n < 0
    · exact .inl ⟨hn, by simp [hn], rfl⟩
    · by_cases hn' : 1048576 < n
      · exact .inr (.inl ⟨hn', by simp [hn, hn'], rfl⟩)
      · simp [hn, hn'] at hb1
  · try simp only [decide_eq_true_eq, decide_eq_false_iff_not, Bool.not_eq_true', Bool.not_eq_false', Bool.and_eq_true, Bool.and_eq_false_iff, Bool.or_eq_true, Bool.or_eq_false_iff, Bool.true_eq, Bool.false_eq, reduceCtorEq] at hb1
    have hn : 0 ≤ n ∧ n ≤ 1048576 := by
      split at hb1
      · cases hb1
      · split at hb1
        · cases hb1
        · omega
    obtain ⟨N, rfl⟩ : ∃ N : Nat, n = N := ⟨n.toNat, by omega⟩
    refine awp_skip ?_
    change Awp _ _ _ _ _ _ _
    -- region 4  chars.go:106
    refine awp_rseq [0, 1, 2, 9] (by rfl) fun K hK => ?_
    simp (decide := true) only [aOps_nil, ev, absV, absS, putD, Slots.put, Slots.get, Slots.keep, if_true, if_false, List.contains_cons, List.contains_nil, true_and, and_true, ↓ap_move, pop_move, hb.len Try.underlying25]
    repeat (with_reducible refine And.intro ?_ ?_; · first | trivial | omega | (intro hg; simp only [Bool.and_eq_true, Bool.or_eq_true, Bool.not_eq_true', Bool.and_eq_false_iff, Bool.or_eq_false_iff, Bool.not_eq_false', decide_eq_true_eq, decide_eq_false_iff_not, eqNil] at hg; omega))
    refine aOps_makeBytes Try.underlying25 sz5 by5 ze5 (by rfl) (by rfl) (by omega) (by omega) fun k4 hk4 => ?_
    simp (decide := true) only [aOps_nil, ev, absV, absS, putD, Slots.put, Slots.get, Slots.keep, if_true, if_false, List.contains_cons, List.contains_nil, true_and, and_true, ↓ap_assign, pop_assign, hb.len Try.underlying25]
    repeat (with_reducible refine And.intro ?_ ?_; · first | trivial | omega | (intro hg; simp only [Bool.and_eq_true, Bool.or_eq_true, Bool.not_eq_true', Bool.and_eq_false_iff, Bool.or_eq_false_iff, Bool.not_eq_false', decide_eq_true_eq, decide_eq_false_iff_not, eqNil] at hg; omega))
    apply hK; clear hK K
    -- region 5  chars.go:107
    refine awp_rseq [0, 1, 2, 9] (by rfl) fun K hK => ?_
    simp (decide := true) only [aOps_nil, ev, absV, absS, putD, Slots.put, Slots.get, Slots.keep, if_true, if_false, List.contains_cons, List.contains_nil, true_and, and_true, ↓ap_move, pop_move, hb.len Try.underlying25]
    repeat (with_reducible refine And.intro ?_ ?_; · first | trivial | omega | (intro hg; simp only [Bool.and_eq_true, Bool.or_eq_true, Bool.not_eq_true', Bool.and_eq_false_iff, Bool.or_eq_false_iff, Bool.not_eq_false', decide_eq_true_eq, decide_eq_false_iff_not, eqNil] at hg; omega))
    refine aOps_callV (V := .str (List.replicate N 32)) (by rfl) (by rfl) (c_repeat w₀ _ 32 N (by omega)) ?_
    refine aOps_copyB (t := 25) (by rfl) Try.underlying25 sz5 (by rfl) (by rfl) (SrcB.str _ _ (List.replicate N 32)) (by rfl) (by simp) (Nat.zero_le _) ?_
    rw [Int.toNat_natCast, fit_init]
    simp (decide := true) only [aOps_nil, ev, absV, absS, putD, Slots.put, Slots.get, Slots.keep, if_true, if_false, List.contains_cons, List.contains_nil, true_and, and_true, hb.len Try.underlying25]
    repeat (with_reducible refine And.intro ?_ ?_; · first | trivial | omega | (intro hg; simp only [Bool.and_eq_true, Bool.or_eq_true, Bool.not_eq_true', Bool.and_eq_false_iff, Bool.or_eq_false_iff, Bool.not_eq_false', decide_eq_true_eq, decide_eq_false_iff_not, eqNil] at hg; omega))
    apply hK; clear hK K
    refine awp_seq ?_
    -- region 6  chars.go:108
    refine awp_rseq [0, 1, 9, 21] (by rfl) fun K hK => ?_
    simp (decide := true) only [aOps_nil, ev, absV, absS, putD, Slots.put, Slots.get, Slots.keep, if_true, if_false, List.contains_cons, List.contains_nil, true_and, and_true, ↓ap_move, pop_move, hb.len Try.underlying25]
    repeat (with_reducible refine And.intro ?_ ?_; · first | trivial | omega | (intro hg; simp only [Bool.and_eq_true, Bool.or_eq_true, Bool.not_eq_true', Bool.and_eq_false_iff, Bool.or_eq_false_iff, Bool.not_eq_false', decide_eq_true_eq, decide_eq_false_iff_not, eqNil] at hg; omega))
    apply hK; clear hK K
    refine awp_cond (b := _) rfl (fun hb2 => ?_) (fun hb2 => ?_)
    · try simp only [decide_eq_true_eq, decide_eq_false_iff_not, Bool.not_eq_true', Bool.not_eq_false', Bool.and_eq_true, Bool.and_eq_false_iff, Bool.or_eq_true, Bool.or_eq_false_iff, Bool.true_eq, Bool.false_eq, reduceCtorEq] at hb2
      -- region 7  chars.go:109
      refine awp_draw_tail 14 mixed (by kernel_rfl) (by rfl) (by rfl) ?_
      simp (decide := true) only [aOps_nil, ev, absV, absS, putD, Slots.put, Slots.get, Slots.keep, if_true, if_false, List.contains_cons, List.contains_nil, true_and, and_true, ↓ap_move, pop_move, ↓ap_len, pop_len, pLen_slice Try.underlying25, pLen_nil Try.underlying25, ↓ap_binOp, pop_binOp, pBinX_int, pI_sub, ↓ap_max, pop_max, pMax_int, evs, List.map_cons, List.map_nil, hb.len Try.underlying25, hb.slice Try.underlying25 sz5 (some (.int .i64 (max 0 ((bs.length : Int) - N)))) none (l := max 0 ((bs.length : Int) - N)) (r := bs.length) rfl rfl (by omega) (by omega) (by omega)]
      try simp (disch := omega) only [wrap_i64, wrap_u8]
      try simp (decide := true) only [aOps_nil, ev, absV, absS, putD, Slots.put, Slots.get, Slots.keep, if_true, if_false, List.contains_cons, List.contains_nil, true_and, and_true, ↓ap_slice, pop_slice, evO, pSlice_ex Try.underlying25 sz5, pSlice_gr Try.underlying25 sz5, pSlice_ex3 Try.underlying25 sz5, pSlice_gr3 Try.underlying25 sz5, pSliceX_nil Try.underlying25 sz5 none none rfl rfl, pSliceE, pSliceG, pSliceE3, bndA_none, bndA_int, ↓ap_move, pop_move, ↓ap_len, pop_len, pLen_slice Try.underlying25, pLen_nil Try.underlying25, ↓ap_binOp, pop_binOp, pBinX_int, pI_sub, ↓ap_max, pop_max, pMax_int, evs, List.map_cons, List.map_nil, hb.len Try.underlying25, hb.slice Try.underlying25 sz5 (some (.int .i64 (max 0 ((bs.length : Int) - N)))) none (l := max 0 ((bs.length : Int) - N)) (r := bs.length) rfl rfl (by omega) (by omega) (by omega)]
      try simp (disch := omega) only [wrap_i64, wrap_u8]
      try simp (decide := true) only [aOps_nil, ev, absV, absS, putD, Slots.put, Slots.get, Slots.keep, if_true, if_false, List.contains_cons, List.contains_nil, true_and, and_true, ↓ap_slice, pop_slice, evO, pSlice_ex Try.underlying25 sz5, pSlice_gr Try.underlying25 sz5, pSlice_ex3 Try.underlying25 sz5, pSlice_gr3 Try.underlying25 sz5, pSliceX_nil Try.underlying25 sz5 none none rfl rfl, pSliceE, pSliceG, pSliceE3, bndA_none, bndA_int, hb.len Try.underlying25, hb.slice Try.underlying25 sz5 (some (.int .i64 (max 0 ((bs.length : Int) - N)))) none (l := max 0 ((bs.length : Int) - N)) (r := bs.length) rfl rfl (by omega) (by omega) (by omega)]
      repeat (with_reducible refine And.intro ?_ ?_; · first | trivial | omega | (intro hg; simp only [Bool.and_eq_true, Bool.or_eq_true, Bool.not_eq_true', Bool.and_eq_false_iff, Bool.or_eq_false_iff, Bool.not_eq_false', decide_eq_true_eq, decide_eq_false_iff_not, eqNil] at hg; omega))
      refine aOps_copyB (t := 25) (by rfl) Try.underlying25 sz5 (by rfl) (by rfl) (SrcB.of ((hb.sub (i := (max 0 ((bs.length : Int) - N)).toNat) (j := (bs.length : Int).toNat) (by omega) (by omega)).mono (Sub.set hk4))) (by rfl) (by simp; omega) (Nat.zero_le _) ?_
      simp (decide := true) only [aOps_nil, ev, absV, absS, putD, Slots.put, Slots.get, Slots.keep, if_true, if_false, List.contains_cons, List.contains_nil, true_and, and_true, hb.len Try.underlying25, hb.slice Try.underlying25 sz5 (some (.int .i64 (max 0 ((bs.length : Int) - N)))) none (l := max 0 ((bs.length : Int) - N)) (r := bs.length) rfl rfl (by omega) (by omega) (by omega)]
      repeat (with_reducible refine And.intro ?_ ?_; · first | trivial | omega | (intro hg; simp only [Bool.and_eq_true, Bool.or_eq_true, Bool.not_eq_true', Bool.and_eq_false_iff, Bool.or_eq_false_iff, Bool.not_eq_false', decide_eq_true_eq, decide_eq_false_iff_not, eqNil] at hg; omega))
      change Awp _ _ _ _ _ _ _
      -- region 9  chars.go:113
      refine awp_rseq [6, 7] (by rfl) fun K hK => ?_
      simp (decide := true) only [aOps_nil, ev, absV, absS, putD, Slots.put, Slots.get, Slots.keep, if_true, if_false, List.contains_cons, List.contains_nil, true_and, and_true, ↓ap_move, pop_move, ↓ap_assign, pop_assign, hb.len Try.underlying25]
      repeat (with_reducible refine And.intro ?_ ?_; · first | trivial | omega | (intro hg; simp only [Bool.and_eq_true, Bool.or_eq_true, Bool.not_eq_true', Bool.and_eq_false_iff, Bool.or_eq_false_iff, Bool.not_eq_false', decide_eq_true_eq, decide_eq_false_iff_not, eqNil] at hg; omega))
      apply hK; clear hK K
      refine awp_ret ?_
      try simp only [thenA_ret, inBlockA_ret]
      refine retA_ret _ (Sub.refl _) (resPre_tmp (resPre_tmp (resPre_nil))) ?_
      simp (decide := true) only [aOps_nil, ev, absV, absS, putD, Slots.put, Slots.get, Slots.keep, if_true, if_false, List.contains_cons, List.contains_nil, true_and, and_true, resOf_two, hb.len Try.underlying25]
      refine .inr (.inr ⟨by omega, by omega, k4, hk4, rfl, ?_⟩)
      subst hb2
      have e1 : 0 + (max 0 ((N : Int) - bs.length)).toNat * 1 = N - bs.length := by omega
      have e2 : (max 0 ((bs.length : Int) - N)).toNat = bs.length - N := by omega
      simp only [fitB, cond_true, Int.toNat_natCast, e1, e2]
      rw [List.take_of_length_le (i := bs.length - (bs.length - N)) (by simp), List.take_of_length_le (by simp; omega)]
    · try simp only [decide_eq_true_eq, decide_eq_false_iff_not, Bool.not_eq_true', Bool.not_eq_false', Bool.and_eq_true, Bool.and_eq_false_iff, Bool.or_eq_true, Bool.or_eq_false_iff, Bool.true_eq, Bool.false_eq, reduceCtorEq] at hb2
      -- region 8  chars.go:111
      refine awp_r [9] (by rfl) ?_
      simp (decide := true) only [aOps_nil, ev, absV, absS, putD, Slots.put, Slots.get, Slots.keep, if_true, if_false, List.contains_cons, List.contains_nil, true_and, and_true, ↓ap_move, pop_move, hb.len Try.underlying25]
      repeat (with_reducible refine And.intro ?_ ?_; · first | trivial | omega | (intro hg; simp only [Bool.and_eq_true, Bool.or_eq_true, Bool.not_eq_true', Bool.and_eq_false_iff, Bool.or_eq_false_iff, Bool.not_eq_false', decide_eq_true_eq, decide_eq_false_iff_not, eqNil] at hg; omega))
      refine aOps_copyB (t := 25) (by rfl) Try.underlying25 sz5 (by rfl) (by rfl) (SrcB.of (hb.mono (Sub.set hk4))) (by rfl) (by simp) (Nat.zero_le _) ?_
      simp (decide := true) only [aOps_nil, ev, absV, absS, putD, Slots.put, Slots.get, Slots.keep, if_true, if_false, List.contains_cons, List.contains_nil, true_and, and_true, hb.len Try.underlying25]
      repeat (with_reducible refine And.intro ?_ ?_; · first | trivial | omega | (intro hg; simp only [Bool.and_eq_true, Bool.or_eq_true, Bool.not_eq_true', Bool.and_eq_false_iff, Bool.or_eq_false_iff, Bool.not_eq_false', decide_eq_true_eq, decide_eq_false_iff_not, eqNil] at hg; omega))
      change Awp _ _ _ _ _ _ _
      -- region 9  chars.go:113
      refine awp_rseq [6, 7] (by rfl) fun K hK => ?_
      simp (decide := true) only [aOps_nil, ev, absV, absS, putD, Slots.put, Slots.get, Slots.keep, if_true, if_false, List.contains_cons, List.contains_nil, true_and, and_true, ↓ap_move, pop_move, ↓ap_assign, pop_assign, hb.len Try.underlying25]
      repeat (with_reducible refine And.intro ?_ ?_; · first | trivial | omega | (intro hg; simp only [Bool.and_eq_true, Bool.or_eq_true, Bool.not_eq_true', Bool.and_eq_false_iff, Bool.or_eq_false_iff, Bool.not_eq_false', decide_eq_true_eq, decide_eq_false_iff_not, eqNil] at hg; omega))
      apply hK; clear hK K
      refine awp_ret ?_
      try simp only [thenA_ret, inBlockA_ret]
      refine retA_ret _ (Sub.refl _) (resPre_tmp (resPre_tmp (resPre_nil))) ?_
      simp (decide := true) only [aOps_nil, ev, absV, absS, putD, Slots.put, Slots.get, Slots.keep, if_true, if_false, List.contains_cons, List.contains_nil, true_and, and_true, resOf_two, hb.len Try.underlying25]
      refine .inr (.inr ⟨by omega, by omega, k4, hk4, rfl, ?_⟩)
      subst hb2
      rfl
end Go.Proofs.Ytmnlmfiokbnhhaa
