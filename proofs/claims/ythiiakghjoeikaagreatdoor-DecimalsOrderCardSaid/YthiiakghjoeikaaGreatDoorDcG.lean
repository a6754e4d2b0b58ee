/-
  Contracts: column, plus, minus of the package decimals.
  Conditions: none.
-/
import Derived.Test.YthiiakghjoeikaaGreatDoorDcF
set_option linter.unusedSimpArgs false
set_option linter.unnecessarySimpa false
set_option linter.unusedVariables false
namespace Go.Proofs.YthiiakghjoeikaaGreatDoor
open Go.AM
open Go.Proofs
open Go.Dec
open Go.Lib (decDigits)
set_option maxRecDepth 100000

def dvI (b : UInt8) : Int := (b.toNat : Int) - 48
theorem dg_at {s : List UInt8} (hs : s.all dg = true) (i : Nat) (hi : i < s.length) : 48 ≤ (s.getD i 0).toNat ∧ (s.getD i 0).toNat ≤ 57 := by
  rw [List.all_eq_true] at hs
  have e : s.getD i 0 = s[i] := by simp [List.getD, List.getElem?_eq_getElem hi]
  rw [e]
  exact (dg_iff _).1 (hs _ (List.getElem_mem hi))
theorem fill_at (n k : Nat) (s : List UInt8) (b : UInt8) (hk : k < n) (hs : s.length = k) : (List.replicate (n - k) 0 ++ s).set (n - 1 - k) b = List.replicate (n - (k + 1)) 0 ++ (b :: s) := by
  have e : List.replicate (n - k) (0 : UInt8) = List.replicate (n - (k + 1)) 0 ++ [0] := by
    rw [show n - k = (n - (k + 1)) + 1 by omega, List.replicate_succ']
  rw [e, List.append_assoc, List.set_append_right _ _ (by simp; omega)]
  congr 1
  have e2 : n - 1 - k - (List.replicate (n - (k + 1)) (0 : UInt8)).length = 0 := by simp; omega
  rw [e2]
  rfl

theorem c_column (w₀ : World) (h : AHeap) (x y : List UInt8) (f : FuncId) (Inv : Nat → List UInt8 → Int → Prop) (hx : x.all dg = true) (hy : y.all dg = true) (hxy : x.length = y.length) (hl : x.length ≤ 1073741824) (h0 : Inv 0 [] 0)
    (step : ∀ k s c, k < x.length → s.length = k → Inv k s c → ∃ d c', (∀ h, ACall Tryz.prog w₀ f [.int .i64 (dvI (x.getD (x.length - 1 - k) 0)), .int .i64 (dvI (y.getD (x.length - 1 - k) 0)), .int .i64 c] h (fun v h' => v = .tuple [.int .i64 d, .int .i64 c'] ∧ h' = h)) ∧ 0 ≤ d ∧ d ≤ 9 ∧ Inv (k + 1) (dch d.toNat :: s) c') :
    ACall Tryz.prog w₀ 67 [.str x, .str y, .func f []] h (fun v h' => (∃ s c, s.length = x.length ∧ Inv x.length s c ∧ v = .tuple [.str s, .int .i64 c]) ∧ h' = h) := by
  refine acall_intro (n := 52) (rs := [.tmp 6, .tmp 7]) Tryz.func67 rfl rfl rfl rfl (Nat.le_of_ble_eq_true rfl) ?_
  simp only [initSlots]
  -- region 0  decimals.go:176
  refine awp_rseq [0, 1, 2] (by rfl) fun K hK => ?_
  simp (decide := true) only [aOps_nil, ev, absV, absS, putD, Slots.put, Slots.keep, if_true, if_false, true_and, ↓ap_assign, pop_assign]
  repeat (with_reducible refine And.intro ?_ ?_; · first | trivial | omega | (intro hg; simp only [Bool.and_eq_true, Bool.or_eq_true, Bool.not_eq_true', Bool.and_eq_false_iff, Bool.or_eq_false_iff, Bool.not_eq_false', decide_eq_true_eq, decide_eq_false_iff_not, eqNil] at hg; omega) )
  apply hK; clear hK K
  -- region 1  decimals.go:177
  refine awp_rseq [0, 1, 2, 8] (by rfl) fun K hK => ?_
  simp (decide := true) only [ev, putD, Slots.put, Slots.get, if_true, if_false, true_and, ↓ap_move, pop_move, ↓ap_len, pop_len, pLen_str Tryz.underlying9]
  repeat (with_reducible refine And.intro ?_ ?_; · first | trivial | omega | (intro hg; simp only [Bool.and_eq_true, Bool.or_eq_true, Bool.not_eq_true', Bool.and_eq_false_iff, Bool.or_eq_false_iff, Bool.not_eq_false', decide_eq_true_eq, decide_eq_false_iff_not, eqNil] at hg; omega) )
  refine aOps_makeBytes Tryz.underlying22 sz5 by5 ze5 (by rfl) (by rfl) (by omega) (by omega) fun k1 hk1 => ?_
  simp (decide := true) only [aOps_nil, ev, putD, Slots.put, Slots.get, Slots.keep, if_true, if_false, true_and, ↓ap_assign, pop_assign]
  repeat (with_reducible refine And.intro ?_ ?_; · first | trivial | omega | (intro hg; simp only [Bool.and_eq_true, Bool.or_eq_true, Bool.not_eq_true', Bool.and_eq_false_iff, Bool.or_eq_false_iff, Bool.not_eq_false', decide_eq_true_eq, decide_eq_false_iff_not, eqNil] at hg; omega) )
  apply hK; clear hK K
  -- region 2  decimals.go:178
  refine awp_rseq [0, 1, 2, 8, 9] (by rfl) fun K hK => ?_
  simp (decide := true) only [aOps_nil, ev, absV, absS, putD, Slots.put, Slots.keep, if_true, if_false, true_and, ↓ap_assign, pop_assign]
  repeat (with_reducible refine And.intro ?_ ?_; · first | trivial | omega | (intro hg; simp only [Bool.and_eq_true, Bool.or_eq_true, Bool.not_eq_true', Bool.and_eq_false_iff, Bool.or_eq_false_iff, Bool.not_eq_false', decide_eq_true_eq, decide_eq_false_iff_not, eqNil] at hg; omega) )
  apply hK; clear hK K
  refine awp_seq ?_
  -- region 3  decimals.go:179
  refine awp_rseq [0, 1, 2, 8, 9, 17, 18] (by rfl) fun K hK => ?_
  simp (decide := true) only [aOps_nil, ev, absV, absS, putD, Slots.put, Slots.get, Slots.keep, if_true, if_false, true_and, ↓ap_move, pop_move, ↓ap_len, pop_len, pLen_str Tryz.underlying9]
  repeat (with_reducible refine And.intro ?_ ?_; · first | trivial | omega | (intro hg; simp only [Bool.and_eq_true, Bool.or_eq_true, Bool.not_eq_true', Bool.and_eq_false_iff, Bool.or_eq_false_iff, Bool.not_eq_false', decide_eq_true_eq, decide_eq_false_iff_not, eqNil] at hg; omega) )
  apply hK; clear hK K
  refine awp_block ?_
  refine awp_loopG [0, 1, 2, 8, 9, 17, 18] (fun g : Nat × List UInt8 × Int => [(0, .str x), (1, .str y), (2, .func f []), (8, .slice (.own k1) 0 x.length (.exact x.length)), (9, .int .i64 g.2.2), (17, .int .i64 x.length), (18, .int .i64 g.1)]) (fun g : Nat × List UInt8 × Int => h.set k1 ⟨byteCells (List.replicate (x.length - g.1) 0 ++ g.2.1), 0⟩) (fun g : Nat × List UInt8 × Int => g.1 ≤ x.length ∧ g.2.1.length = g.1 ∧ Inv g.1 g.2.1 g.2.2) (fun g : Nat × List UInt8 × Int => x.length - g.1) (0, [], 0) rfl (by simp only [Nat.sub_zero, List.append_nil, Int.toNat_natCast]; exact Sub.refl _) ⟨Nat.zero_le _, rfl, h0⟩ ?_
  rintro ⟨k, s, c⟩ ⟨hk, hs, hi⟩
  simp only at hk hs hi
  -- region 4  decimals.go:179
  refine awp_rseq [0, 1, 2, 8, 9, 17, 18, 19] (by rfl) fun K hK => ?_
  simp (decide := true) only [aOps_nil, ev, putD, Slots.put, Slots.get, Slots.keep, if_true, if_false, true_and, ↓ap_binOp, pop_binOp, isNilC_tmp, cond_false, pBinX_int, pI_lss]
  repeat (with_reducible refine And.intro ?_ ?_; · first | trivial | omega | (intro hg; simp only [Bool.and_eq_true, Bool.or_eq_true, Bool.not_eq_true', Bool.and_eq_false_iff, Bool.or_eq_false_iff, Bool.not_eq_false', decide_eq_true_eq, decide_eq_false_iff_not, eqNil] at hg; omega) )
  apply hK; clear hK K
  refine awp_seq (awp_cond (b := _) rfl (fun hb1 => ?_) (fun hb1 => ?_))
  · try simp only [decide_eq_true_eq] at hb1
    obtain ⟨d, c', hcall, hd0, hd9, hi'⟩ := step k s c (by omega) hs hi
    have hxi := dg_at hx (x.length - 1 - k) (by omega)
    have hyi := dg_at hy (x.length - 1 - k) (by omega)
    have hidx : ((x.length : Int) - 1 - k).toNat = x.length - 1 - k := by omega
    refine awp_skip ?_
    change Awp _ _ _ _ _ _ _
    refine awp_seq ?_
    refine awp_block ?_
    -- region 5  decimals.go:179
    refine awp_rseq [0, 1, 2, 8, 9, 10, 17, 18] (by rfl) fun K hK => ?_
    simp (decide := true) only [aOps_nil, ev, putD, Slots.put, Slots.get, Slots.keep, if_true, if_false, true_and, ↓ap_move, pop_move, ↓ap_assign, pop_assign]
    repeat (with_reducible refine And.intro ?_ ?_; · first | trivial | omega | (intro hg; simp only [Bool.and_eq_true, Bool.or_eq_true, Bool.not_eq_true', Bool.and_eq_false_iff, Bool.or_eq_false_iff, Bool.not_eq_false', decide_eq_true_eq, decide_eq_false_iff_not, eqNil] at hg; omega) )
    apply hK; clear hK K
    -- region 6  decimals.go:180
    refine awp_rseq [0, 1, 2, 8, 9, 11, 17, 18] (by rfl) fun K hK => ?_
    simp (decide := true) only [aOps_nil, ev, absV, absS, putD, Slots.put, Slots.get, Slots.keep, if_true, if_false, true_and, ↓ap_move, pop_move, ↓ap_len, pop_len, pLen_str Tryz.underlying9, ↓ap_binOp, pop_binOp, isNilC_int, cond_false, pBinX_int, pI_sub, isNilC_tmp, ↓ap_assign, pop_assign]
    try simp (disch := omega) only [wrap_i64]
    repeat (with_reducible refine And.intro ?_ ?_; · first | trivial | omega | (intro hg; simp only [Bool.and_eq_true, Bool.or_eq_true, Bool.not_eq_true', Bool.and_eq_false_iff, Bool.or_eq_false_iff, Bool.not_eq_false', decide_eq_true_eq, decide_eq_false_iff_not, eqNil] at hg; omega) )
    apply hK; clear hK K
    -- region 7  decimals.go:181
    refine awp_rseq [0, 1, 2, 8, 9, 11, 17, 18] (by rfl) fun K hK => ?_
    simp (decide := true) only [aOps_nil, ev, absV, absS, putD, Slots.put, Slots.keep, if_true, if_false, true_and, ↓ap_assign, pop_assign]
    repeat (with_reducible refine And.intro ?_ ?_; · first | trivial | omega | (intro hg; simp only [Bool.and_eq_true, Bool.or_eq_true, Bool.not_eq_true', Bool.and_eq_false_iff, Bool.or_eq_false_iff, Bool.not_eq_false', decide_eq_true_eq, decide_eq_false_iff_not, eqNil] at hg; omega) )
    apply hK; clear hK K
    -- region 8  decimals.go:182
    refine awp_dseq_any [0, 1, 2, 8, 9, 11, 12, 17, 18] mixed (by kernel_rfl) (by rfl) fun K hK => ?_
    simp (decide := true) only [ev, absV, absS, putD, Slots.put, Slots.get, if_true, if_false, true_and, ↓vp_move, pop_move, ↓vp_index, pop_index, pIndex_str Tryz.underlying9, ↓vp_binOp, pop_binOp, isNilC_int, cond_false, pBinX_int, pI_sub, ↓vp_convert _ _ _ (es_int Tryz.underlying5 Tryz.underlying3), pop_convert, pConv_int Tryz.underlying5 Tryz.underlying3, hidx]
    try simp (disch := omega) only [wrap_i64, wrap_u8]
    repeat (with_reducible refine And.intro ?_ ?_; · first | trivial | omega | (intro hg; simp only [Bool.and_eq_true, Bool.or_eq_true, Bool.not_eq_true', Bool.and_eq_false_iff, Bool.or_eq_false_iff, Bool.not_eq_false', decide_eq_true_eq, decide_eq_false_iff_not, eqNil] at hg; omega) )
    refine vOps_callV (V := .tuple [.int .i64 d, .int .i64 c']) (by rfl) (by rfl) (hcall _) ?_
    simp (decide := true) only [vOps_nil, ev, putD, Slots.put, Slots.get, Slots.keep, if_true, if_false, true_and, ↓vp_move, pop_move, ↓vp_extract, pop_extract, pExt_tuple, List.length_cons, List.length_nil, List.getD_cons_zero, List.getD_cons_succ, ↓vp_assign, pop_assign]
    repeat (with_reducible refine And.intro ?_ ?_; · first | trivial | omega | (intro hg; simp only [Bool.and_eq_true, Bool.or_eq_true, Bool.not_eq_true', Bool.and_eq_false_iff, Bool.or_eq_false_iff, Bool.not_eq_false', decide_eq_true_eq, decide_eq_false_iff_not, eqNil] at hg; omega) )
    apply hK; clear hK K
    -- region 9  decimals.go:183
    refine awp_r [0, 1, 2, 8, 9, 17, 18] (by rfl) ?_
    simp (decide := true) only [ev, absV, absS, putD, Slots.put, Slots.get, if_true, if_false, true_and, ↓ap_move, pop_move, ↓ap_binOp, pop_binOp, isNilC_tmp, cond_false, pBinX_int, pI_add, ↓ap_convert _ _ _ (es_int Tryz.underlying3 Tryz.underlying5), pop_convert, pConv_int Tryz.underlying3 Tryz.underlying5]
    try simp (disch := omega) only [wrap_i64, wrap_u8]
    try simp (decide := true) only [ev, putD, Slots.put, Slots.get, if_true, if_false, ↓ap_indexAddrL, apL_mk, pIndexAddr_slice Tryz.underlying22 sz5]
    repeat (with_reducible refine And.intro ?_ ?_; · first | trivial | omega | (intro hg; simp only [Bool.and_eq_true, Bool.or_eq_true, Bool.not_eq_true', Bool.and_eq_false_iff, Bool.or_eq_false_iff, Bool.not_eq_false', decide_eq_true_eq, decide_eq_false_iff_not, eqNil] at hg; omega) )
    refine aOps_storeByte (i := x.length - 1 - k) (by rfl) (by rfl) sz5 (by rfl) (by omega) (by simp; omega) (Nat.zero_le _) (by omega) (by omega) ?_
    simp (decide := true) only [aOps_nil, putD, Slots.keep, if_true, if_false]
    repeat (with_reducible refine And.intro ?_ ?_; · first | trivial | omega | (intro hg; simp only [Bool.and_eq_true, Bool.or_eq_true, Bool.not_eq_true', Bool.and_eq_false_iff, Bool.or_eq_false_iff, Bool.not_eq_false', decide_eq_true_eq, decide_eq_false_iff_not, eqNil] at hg; omega) )
    change Awp _ _ _ _ _ _ _
    -- region 10  decimals.go:179
    refine awp_r [0, 1, 2, 8, 9, 17, 18] (by rfl) ?_
    simp (decide := true) only [aOps_nil, ev, absV, absS, putD, Slots.put, Slots.get, Slots.keep, if_true, if_false, true_and, ↓ap_binOp, pop_binOp, isNilC_int, cond_false, pBinX_int, pI_add, ↓ap_move, pop_move]
    try simp (disch := omega) only [wrap_i64]
    repeat (with_reducible refine And.intro ?_ ?_; · first | trivial | omega | (intro hg; simp only [Bool.and_eq_true, Bool.or_eq_true, Bool.not_eq_true', Bool.and_eq_false_iff, Bool.or_eq_false_iff, Bool.not_eq_false', decide_eq_true_eq, decide_eq_false_iff_not, eqNil] at hg; omega) )
    try simp only [thenA_normal]
    refine ⟨(k + 1, dch d.toNat :: s, c'), rfl, ?_, ⟨by simp only; omega, by simp [hs], hi'⟩, by simp only; omega⟩
    rw [show UInt8.ofNat (48 + d).toNat = dch d.toNat by rw [dch]; congr 1; omega, fill_at x.length k s _ (by omega) hs]
    exact Sub.refl _
  · try simp only [decide_eq_false_iff_not] at hb1
    have hkk : k = x.length := by omega
    subst hkk
    simp only [Nat.sub_self, List.replicate_zero, List.nil_append]
    refine awp_exit ?_
    change Awp _ _ _ _ _ _ _
    -- region 11  decimals.go:185
    refine awp_rseq [6, 7] (by rfl) fun K hK => ?_
    simp (decide := true) only [aOps_nil, ev, putD, Slots.put, Slots.get, Slots.keep, if_true, if_false, true_and, ↓ap_move, pop_move, ↓ap_convert _ _ _ (es_str Tryz.underlying22 Tryz.underlying9), pop_convert, ↓ap_assign, pop_assign, (IsB.own (w₀ := w₀) (AHeap.set_same h k1 _) hs.symm (c := .exact x.length) (Nat.le_refl _)).conv Tryz.underlying22 Tryz.underlying9 Tryz.underlying5]
    try simp (disch := omega) only [wrap_i64, wrap_u8]
    repeat (with_reducible refine And.intro ?_ ?_; · first | trivial | omega | (intro hg; simp only [Bool.and_eq_true, Bool.or_eq_true, Bool.not_eq_true', Bool.and_eq_false_iff, Bool.or_eq_false_iff, Bool.not_eq_false', decide_eq_true_eq, decide_eq_false_iff_not, eqNil] at hg; omega) )
    apply hK; clear hK K
    refine awp_ret ?_
    try simp only [thenA_ret, inBlockA_ret]
    refine retA_ret h (Sub.set hk1) (resPre_tmp (resPre_tmp (resPre_nil))) ?_
    simp (decide := true) only [Slots.get, if_true, if_false, and_true, resOf_two]
    exact ⟨s, c, hs, hi, rfl⟩

theorem c_plus1 (w₀ : World) (h : AHeap) (a b c : Int) (ha : 0 ≤ a ∧ a ≤ 9) (hb : 0 ≤ b ∧ b ≤ 9) (hc : 0 ≤ c ∧ c ≤ 1) :
    ACall Tryz.prog w₀ 68 [.int .i64 a, .int .i64 b, .int .i64 c] h (fun v h' => v = .tuple [.int .i64 ((a + b + c) % 10), .int .i64 ((a + b + c) / 10)] ∧ h' = h) := by
  refine acall_intro (n := 20) (rs := [.tmp 6, .tmp 7]) Tryz.func68 rfl rfl rfl rfl (Nat.le_of_ble_eq_true rfl) ?_
  simp only [initSlots]
  -- region 0  decimals.go:190
  refine awp_rseq [0, 1, 2] (by rfl) fun K hK => ?_
  simp (decide := true) only [aOps_nil, ev, absV, absS, putD, Slots.put, Slots.keep, if_true, if_false, true_and, ↓ap_assign, pop_assign]
  repeat (with_reducible refine And.intro ?_ ?_; · first | trivial | omega | (intro hg; simp only [Bool.and_eq_true, Bool.or_eq_true, Bool.not_eq_true', Bool.and_eq_false_iff, Bool.or_eq_false_iff, Bool.not_eq_false', decide_eq_true_eq, decide_eq_false_iff_not, eqNil] at hg; omega) )
  apply hK; clear hK K
  -- region 1  decimals.go:190
  refine awp_rseq [6, 7] (by rfl) fun K hK => ?_
  simp (decide := true) only [aOps_nil, ev, absV, absS, putD, Slots.put, Slots.get, Slots.keep, if_true, if_false, true_and, ↓ap_move, pop_move, ↓ap_binOp, pop_binOp, isNilC_tmp, cond_false, pBinX_int, pI_add, isNilC_int, pI_rem, pI_quo, ↓ap_assign, pop_assign]
  try simp (disch := omega) only [wrap_i64]
  repeat (with_reducible refine And.intro ?_ ?_; · first | trivial | omega | (intro hg; simp only [Bool.and_eq_true, Bool.or_eq_true, Bool.not_eq_true', Bool.and_eq_false_iff, Bool.or_eq_false_iff, Bool.not_eq_false', decide_eq_true_eq, decide_eq_false_iff_not, eqNil] at hg; omega) )
  apply hK; clear hK K
  refine awp_ret ?_
  try simp only [thenA_ret, inBlockA_ret]
  refine retA_ret _ (Sub.refl _) (resPre_tmp (resPre_tmp (resPre_nil))) ?_
  simp (decide := true) only [Slots.get, if_true, if_false, and_true, resOf_two]
  rw [Int.tmod_eq_emod_of_nonneg (by omega), Int.tdiv_eq_ediv_of_nonneg (by omega), wrap_i64 (by omega) (by omega)]

theorem c_minus1 (w₀ : World) (h : AHeap) (a b c : Int) (ha : 0 ≤ a ∧ a ≤ 9) (hb : 0 ≤ b ∧ b ≤ 9) (hc : 0 ≤ c ∧ c ≤ 1) :
    ACall Tryz.prog w₀ 69 [.int .i64 a, .int .i64 b, .int .i64 c] h (fun v h' => v = .tuple [.int .i64 (if a - b - c < 0 then a - b - c + 10 else a - b - c), .int .i64 (if a - b - c < 0 then 1 else 0)] ∧ h' = h) := by
  refine acall_intro (n := 23) (rs := [.tmp 6, .tmp 7]) Tryz.func69 rfl rfl rfl rfl (Nat.le_of_ble_eq_true rfl) ?_
  simp only [initSlots]
  -- region 0  decimals.go:196
  refine awp_rseq [0, 1, 2] (by rfl) fun K hK => ?_
  simp (decide := true) only [aOps_nil, ev, absV, absS, putD, Slots.put, Slots.keep, if_true, if_false, true_and, ↓ap_assign, pop_assign]
  repeat (with_reducible refine And.intro ?_ ?_; · first | trivial | omega | (intro hg; simp only [Bool.and_eq_true, Bool.or_eq_true, Bool.not_eq_true', Bool.and_eq_false_iff, Bool.or_eq_false_iff, Bool.not_eq_false', decide_eq_true_eq, decide_eq_false_iff_not, eqNil] at hg; omega) )
  apply hK; clear hK K
  refine awp_seq ?_
  -- region 1  decimals.go:197
  refine awp_rseq [0, 1, 2, 8] (by rfl) fun K hK => ?_
  simp (decide := true) only [aOps_nil, ev, putD, Slots.put, Slots.get, Slots.keep, if_true, if_false, true_and, ↓ap_move, pop_move, ↓ap_binOp, pop_binOp, isNilC_tmp, cond_false, pBinX_int, pI_sub, ↓ap_assign, pop_assign]
  try simp (disch := omega) only [wrap_i64]
  repeat (with_reducible refine And.intro ?_ ?_; · first | trivial | omega | (intro hg; simp only [Bool.and_eq_true, Bool.or_eq_true, Bool.not_eq_true', Bool.and_eq_false_iff, Bool.or_eq_false_iff, Bool.not_eq_false', decide_eq_true_eq, decide_eq_false_iff_not, eqNil] at hg; omega) )
  apply hK; clear hK K
  -- region 2  decimals.go:197
  refine awp_rseq [0, 1, 2, 8, 15] (by rfl) fun K hK => ?_
  simp (decide := true) only [aOps_nil, ev, absV, absS, putD, Slots.put, Slots.get, Slots.keep, if_true, if_false, true_and, ↓ap_move, pop_move, ↓ap_binOp, pop_binOp, isNilC_int, cond_false, pBinX_int, pI_lss]
  repeat (with_reducible refine And.intro ?_ ?_; · first | trivial | omega | (intro hg; simp only [Bool.and_eq_true, Bool.or_eq_true, Bool.not_eq_true', Bool.and_eq_false_iff, Bool.or_eq_false_iff, Bool.not_eq_false', decide_eq_true_eq, decide_eq_false_iff_not, eqNil] at hg; omega) )
  apply hK; clear hK K
  refine awp_cond (b := _) rfl (fun hb1 => ?_) (fun hb1 => ?_)
  · try simp only [decide_eq_true_eq] at hb1
    -- region 3  decimals.go:198
    refine awp_rseq [6, 7] (by rfl) fun K hK => ?_
    simp (decide := true) only [aOps_nil, ev, absV, absS, putD, Slots.put, Slots.get, Slots.keep, if_true, if_false, true_and, ↓ap_move, pop_move, ↓ap_binOp, pop_binOp, isNilC_int, cond_false, pBinX_int, pI_add, ↓ap_assign, pop_assign]
    try simp (disch := omega) only [wrap_i64]
    repeat (with_reducible refine And.intro ?_ ?_; · first | trivial | omega | (intro hg; simp only [Bool.and_eq_true, Bool.or_eq_true, Bool.not_eq_true', Bool.and_eq_false_iff, Bool.or_eq_false_iff, Bool.not_eq_false', decide_eq_true_eq, decide_eq_false_iff_not, eqNil] at hg; omega) )
    apply hK; clear hK K
    refine awp_ret ?_
    try simp only [thenA_ret]
    refine retA_ret _ (Sub.refl _) (resPre_tmp (resPre_tmp (resPre_nil))) ?_
    simp (decide := true) only [Slots.get, if_true, if_false, and_true, resOf_two]
    rw [if_pos hb1, if_pos hb1]
  · try simp only [decide_eq_false_iff_not] at hb1
    refine awp_skip ?_
    change Awp _ _ _ _ _ _ _
    -- region 4  decimals.go:200
    refine awp_rseq [6, 7] (by rfl) fun K hK => ?_
    simp (decide := true) only [aOps_nil, ev, absV, absS, putD, Slots.put, Slots.get, Slots.keep, if_true, if_false, true_and, ↓ap_move, pop_move, ↓ap_binOp, pop_binOp, isNilC_tmp, cond_false, pBinX_int, pI_sub, ↓ap_assign, pop_assign]
    try simp (disch := omega) only [wrap_i64]
    repeat (with_reducible refine And.intro ?_ ?_; · first | trivial | omega | (intro hg; simp only [Bool.and_eq_true, Bool.or_eq_true, Bool.not_eq_true', Bool.and_eq_false_iff, Bool.or_eq_false_iff, Bool.not_eq_false', decide_eq_true_eq, decide_eq_false_iff_not, eqNil] at hg; omega) )
    apply hK; clear hK K
    refine awp_ret ?_
    try simp only [thenA_ret, inBlockA_ret]
    refine retA_ret _ (Sub.refl _) (resPre_tmp (resPre_tmp (resPre_nil))) ?_
    simp (decide := true) only [Slots.get, if_true, if_false, and_true, resOf_two]
    rw [if_neg hb1, if_neg hb1]


theorem c_itoaSmall (w₀ : World) (h : AHeap) (i : Nat) (hi : i < 100) : ACall Tryz.prog w₀ 40 [.int .i64 i] h (fun v h' => v = .str (decDigits i) ∧ h' = h) := by
  refine acall_of_calls (vals := [.int .i64 i]) (val := .string ⟨⟨decDigits i⟩⟩) Tryz.func40 rfl rfl (fun φ vs hv => VRs_i hv) (fun φ => rfl) fun w => ?_
  refine (Tryz.strconv_Itoa_small i hi w).mono fun e w' ⟨e1, e2⟩ => ⟨e1, ?_⟩
  subst e2; exact Go.RowKit.Below.refl _ _

theorem dvI_nat {s : List UInt8} (hs : s.all dg = true) (i : Nat) (hi : i < s.length) : dvI (s.getD i 0) = (dv (s.getD i 0) : Int) ∧ dv (s.getD i 0) ≤ 9 := by
  have := dg_at hs i hi
  simp only [dvI, dv]
  omega

/-- What holds behind k columns of a sum. -/
def PlusI (x y : List UInt8) (k : Nat) (s : List UInt8) (c : Int) : Prop :=
  s.all dg = true ∧ 0 ≤ c ∧ c ≤ 1 ∧ (natOf s : Int) + c * 10 ^ k = natOf (x.drop (x.length - k)) + natOf (y.drop (y.length - k))

theorem c_plus (w₀ : World) (h : AHeap) (x y : List UInt8) (hx : x.all dg = true) (hy : y.all dg = true) (hxy : x.length = y.length) (hl : x.length ≤ 1073741824) :
    ACall Tryz.prog w₀ 51 [.str x, .str y] h (fun v h' => v = .str (fixS (natOf x + natOf y) (x.length + 1)) ∧ h' = h) := by
  have hcol := c_column w₀ h x y 68 (PlusI x y) hx hy hxy hl ⟨rfl, by omega, by omega, by simp [natOf_nil]⟩ fun k s c hk hs hi => by
    obtain ⟨i1, i2, i3, i4⟩ := hi
    obtain ⟨a1, a2⟩ := dvI_nat hx (x.length - 1 - k) (by omega)
    obtain ⟨b1, b2⟩ := dvI_nat hy (x.length - 1 - k) (by omega)
    refine ⟨_, _, fun h => c_plus1 w₀ h _ _ c (by omega) (by omega) ⟨i2, i3⟩, by omega, by omega, ?_, by omega, by omega, ?_⟩
    · rw [List.all_cons, i1, dch_dg (by omega)]; rfl
    · have ex := natOf_drop x k hk
      have ey := natOf_drop y k (by omega)
      rw [show y.length - 1 - k = x.length - 1 - k by omega] at ey
      rw [natOf_cons, dv_dch (by omega), hs, ex, ey]
      generalize natOf (x.drop (x.length - k)) = X at *
      generalize natOf (y.drop (y.length - k)) = Y at *
      rw [a1, b1] at *
      generalize dv (x.getD (x.length - 1 - k) 0) = A at *
      generalize dv (y.getD (x.length - 1 - k) 0) = B at *
      rw [Int.pow_succ]
      have e1 : ((((A : Int) + B + c) % 10).toNat : Int) = ((A : Int) + B + c) % 10 := by omega
      simp only [Int.natCast_add, Int.natCast_mul, Int.natCast_pow, e1] at *
      have hr : ((A : Int) + B + c) % 10 + 10 * (((A : Int) + B + c) / 10) = A + B + c := by omega
      generalize ((A : Int) + B + c) % 10 = r at *
      generalize ((A : Int) + B + c) / 10 = q at *
      have hT := congrArg (· * ((10 : Nat) : Int) ^ k) hr
      simp only [Int.add_mul, Int.mul_assoc] at hT
      rw [Int.mul_comm (_ ^ k), ← Int.mul_assoc]
      have hc10 : ((10 : Nat) : Int) = 10 := rfl
      simp only [hc10] at *
      generalize (10 : Int) ^ k = T at *
      have hq : q * 10 * T = 10 * (q * T) := by rw [Int.mul_comm q 10, Int.mul_assoc]
      omega
  refine acall_intro (n := 17) (rs := [.tmp 4]) Tryz.func51 rfl rfl rfl rfl (Nat.le_of_ble_eq_true rfl) ?_
  simp only [initSlots]
  -- region 0  decimals.go:189
  refine awp_rseq [0, 1] (by rfl) fun K hK => ?_
  simp (decide := true) only [aOps_nil, ev, absV, absS, putD, Slots.put, Slots.keep, if_true, if_false, true_and, ↓ap_assign, pop_assign]
  repeat (with_reducible refine And.intro ?_ ?_; · first | trivial | omega | (intro hg; simp only [Bool.and_eq_true, Bool.or_eq_true, Bool.not_eq_true', Bool.and_eq_false_iff, Bool.or_eq_false_iff, Bool.not_eq_false', decide_eq_true_eq, decide_eq_false_iff_not, eqNil] at hg; omega) )
  apply hK; clear hK K
  -- region 1  decimals.go:190
  refine awp_rseq [5, 6] (by rfl) fun K hK => ?_
  simp (decide := true) only [ev, putD, Slots.put, Slots.get, if_true, if_false, true_and, ↓ap_move, pop_move]
  repeat (with_reducible refine And.intro ?_ ?_; · first | trivial | omega | (intro hg; simp only [Bool.and_eq_true, Bool.or_eq_true, Bool.not_eq_true', Bool.and_eq_false_iff, Bool.or_eq_false_iff, Bool.not_eq_false', decide_eq_true_eq, decide_eq_false_iff_not, eqNil] at hg; omega) )
  refine aOps_call (by rfl) (by rfl) (hcol) fun x1q2 h1q2 hx1q2 => ?_
  obtain ⟨⟨s, c, hs, ⟨i1, i2, i3, i4⟩, rfl⟩, rfl⟩ := hx1q2
  obtain ⟨C, rfl⟩ : ∃ C : Nat, c = C := ⟨c.toNat, by omega⟩
  simp (decide := true) only [aOps_nil, ev, putD, Slots.put, Slots.get, Slots.keep, if_true, if_false, true_and, ↓ap_move, pop_move, ↓ap_extract, pop_extract, pExt_tuple, List.length_cons, List.length_nil, List.getD_cons_zero, List.getD_cons_succ, ↓ap_assign, pop_assign]
  repeat (with_reducible refine And.intro ?_ ?_; · first | trivial | omega | (intro hg; simp only [Bool.and_eq_true, Bool.or_eq_true, Bool.not_eq_true', Bool.and_eq_false_iff, Bool.or_eq_false_iff, Bool.not_eq_false', decide_eq_true_eq, decide_eq_false_iff_not, eqNil] at hg; omega) )
  apply hK; clear hK K
  -- region 2  decimals.go:191
  refine awp_rseq [4] (by rfl) fun K hK => ?_
  simp (decide := true) only [ev, putD, Slots.put, Slots.get, if_true, if_false, true_and, ↓ap_move, pop_move]
  repeat (with_reducible refine And.intro ?_ ?_; · first | trivial | omega | (intro hg; simp only [Bool.and_eq_true, Bool.or_eq_true, Bool.not_eq_true', Bool.and_eq_false_iff, Bool.or_eq_false_iff, Bool.not_eq_false', decide_eq_true_eq, decide_eq_false_iff_not, eqNil] at hg; omega) )
  refine aOps_callV (V := .str (decDigits C)) (by rfl) (by rfl) (c_itoaSmall w₀ _ C (by omega)) ?_
  simp (decide := true) only [aOps_nil, ev, putD, Slots.put, Slots.get, Slots.keep, if_true, if_false, true_and, ↓ap_move, pop_move, ↓ap_binOp, pop_binOp, isNilC_tmp, cond_false, pBinX_str, pS_add, ↓ap_assign, pop_assign]
  refine And.intro (by rw [decDigits_small (by omega)]; simp; omega) ?_
  apply hK; clear hK K
  refine awp_ret ?_
  try simp only [thenA_ret, inBlockA_ret]
  refine retA_ret _ (Sub.refl _) (resPre_tmp (resPre_nil)) ?_
  simp (decide := true) only [Slots.get, if_true, and_true, resOf_one]
  rw [decDigits_small (by omega)]
  refine congrArg AVal.str (fixS_of ?_ ?_ (by simp [hs]))
  · simp [i1, dch_dg (show C < 10 by omega)]
  · simp only [Nat.sub_self, List.drop_zero, ← hxy] at i4
    rw [List.singleton_append, natOf_cons, dv_dch (by omega), hs]
    have i5 : (C : Int) * 10 ^ x.length + natOf s = natOf x + natOf y := by omega
    exact_mod_cast i5

/-- What holds behind k columns of a difference. -/
def MinusI (x y : List UInt8) (k : Nat) (s : List UInt8) (c : Int) : Prop :=
  s.all dg = true ∧ 0 ≤ c ∧ c ≤ 1 ∧ (natOf s : Int) - c * 10 ^ k = natOf (x.drop (x.length - k)) - natOf (y.drop (y.length - k))

theorem c_minus (w₀ : World) (h : AHeap) (x y : List UInt8) (hx : x.all dg = true) (hy : y.all dg = true) (hxy : x.length = y.length) (hl : x.length ≤ 1073741824) (hle : natOf y ≤ natOf x) :
    ACall Tryz.prog w₀ 52 [.str x, .str y] h (fun v h' => v = .str (fixS (natOf x - natOf y) x.length) ∧ h' = h) := by
  have hcol := c_column w₀ h x y 69 (MinusI x y) hx hy hxy hl ⟨rfl, by omega, by omega, by simp [natOf_nil]⟩ fun k s c hk hs hi => by
    obtain ⟨i1, i2, i3, i4⟩ := hi
    obtain ⟨a1, a2⟩ := dvI_nat hx (x.length - 1 - k) (by omega)
    obtain ⟨b1, b2⟩ := dvI_nat hy (x.length - 1 - k) (by omega)
    refine ⟨_, _, fun h => c_minus1 w₀ h _ _ c (by omega) (by omega) ⟨i2, i3⟩, by split <;> omega, by split <;> omega, ?_, by split <;> omega, by split <;> omega, ?_⟩
    · rw [List.all_cons, i1, dch_dg (by split <;> omega)]; rfl
    · have ex := natOf_drop x k hk
      have ey := natOf_drop y k (by omega)
      rw [show y.length - 1 - k = x.length - 1 - k by omega] at ey
      rw [natOf_cons, dv_dch (by split <;> omega), hs, ex, ey]
      generalize natOf (x.drop (x.length - k)) = X at *
      generalize natOf (y.drop (y.length - k)) = Y at *
      rw [a1, b1] at *
      generalize dv (x.getD (x.length - 1 - k) 0) = A at *
      generalize dv (y.getD (x.length - 1 - k) 0) = B at *
      rw [Int.pow_succ]
      obtain ⟨r, hr⟩ : ∃ r : Int, r = (if (A : Int) - B - c < 0 then (A : Int) - B - c + 10 else (A : Int) - B - c) := ⟨_, rfl⟩
      obtain ⟨q, hq0⟩ : ∃ q : Int, q = (if (A : Int) - B - c < 0 then (1 : Int) else 0) := ⟨_, rfl⟩
      rw [← hr, ← hq0]
      have e0 : 0 ≤ r := by rw [hr]; split <;> omega
      have e1 : (r.toNat : Int) = r := by omega
      simp only [Int.natCast_add, Int.natCast_mul, Int.natCast_pow, e1] at *
      have hrq : r - 10 * q = A - B - c := by rw [hr, hq0]; split <;> omega
      have hT := congrArg (· * ((10 : Nat) : Int) ^ k) hrq
      simp only [Int.sub_mul, Int.mul_assoc] at hT
      rw [Int.mul_comm (_ ^ k), ← Int.mul_assoc]
      have hc10 : ((10 : Nat) : Int) = 10 := rfl
      simp only [hc10] at *
      generalize (10 : Int) ^ k = T at *
      have hq : q * 10 * T = 10 * (q * T) := by rw [Int.mul_comm q 10, Int.mul_assoc]
      omega
  refine acall_intro (n := 14) (rs := [.tmp 4]) Tryz.func52 rfl rfl rfl rfl (Nat.le_of_ble_eq_true rfl) ?_
  simp only [initSlots]
  -- region 0  decimals.go:195
  refine awp_rseq [0, 1] (by rfl) fun K hK => ?_
  simp (decide := true) only [aOps_nil, ev, absV, absS, putD, Slots.put, Slots.keep, if_true, if_false, true_and, ↓ap_assign, pop_assign]
  repeat (with_reducible refine And.intro ?_ ?_; · first | trivial | omega | (intro hg; simp only [Bool.and_eq_true, Bool.or_eq_true, Bool.not_eq_true', Bool.and_eq_false_iff, Bool.or_eq_false_iff, Bool.not_eq_false', decide_eq_true_eq, decide_eq_false_iff_not, eqNil] at hg; omega) )
  apply hK; clear hK K
  -- region 1  decimals.go:196
  refine awp_rseq [5] (by rfl) fun K hK => ?_
  simp (decide := true) only [ev, putD, Slots.put, Slots.get, if_true, if_false, true_and, ↓ap_move, pop_move]
  repeat (with_reducible refine And.intro ?_ ?_; · first | trivial | omega | (intro hg; simp only [Bool.and_eq_true, Bool.or_eq_true, Bool.not_eq_true', Bool.and_eq_false_iff, Bool.or_eq_false_iff, Bool.not_eq_false', decide_eq_true_eq, decide_eq_false_iff_not, eqNil] at hg; omega) )
  refine aOps_call (by rfl) (by rfl) (hcol) fun x1q2 h1q2 hx1q2 => ?_
  obtain ⟨⟨s, c, hs, ⟨i1, i2, i3, i4⟩, rfl⟩, rfl⟩ := hx1q2
  simp (decide := true) only [aOps_nil, ev, putD, Slots.put, Slots.get, Slots.keep, if_true, if_false, true_and, ↓ap_move, pop_move, ↓ap_extract, pop_extract, pExt_tuple, List.length_cons, List.length_nil, List.getD_cons_zero, List.getD_cons_succ, ↓ap_assign, pop_assign]
  repeat (with_reducible refine And.intro ?_ ?_; · first | trivial | omega | (intro hg; simp only [Bool.and_eq_true, Bool.or_eq_true, Bool.not_eq_true', Bool.and_eq_false_iff, Bool.or_eq_false_iff, Bool.not_eq_false', decide_eq_true_eq, decide_eq_false_iff_not, eqNil] at hg; omega) )
  apply hK; clear hK K
  -- region 2  decimals.go:202
  refine awp_rseq [4] (by rfl) fun K hK => ?_
  simp (decide := true) only [aOps_nil, ev, putD, Slots.put, Slots.get, Slots.keep, if_true, if_false, true_and, ↓ap_move, pop_move, ↓ap_assign, pop_assign]
  repeat (with_reducible refine And.intro ?_ ?_; · first | trivial | omega | (intro hg; simp only [Bool.and_eq_true, Bool.or_eq_true, Bool.not_eq_true', Bool.and_eq_false_iff, Bool.or_eq_false_iff, Bool.not_eq_false', decide_eq_true_eq, decide_eq_false_iff_not, eqNil] at hg; omega) )
  apply hK; clear hK K
  refine awp_ret ?_
  try simp only [thenA_ret, inBlockA_ret]
  refine retA_ret _ (Sub.refl _) (resPre_tmp (resPre_nil)) ?_
  simp (decide := true) only [Slots.get, if_true, and_true, resOf_one]
  simp only [Nat.sub_self, List.drop_zero, ← hxy] at i4
  have hlt := natOf_lt s i1
  rw [hs] at hlt
  have hc0 : c = 0 := by
    rcases (show c = 0 ∨ c = 1 by omega) with e | e
    · exact e
    · exfalso
      subst e
      rw [Int.one_mul] at i4
      have hlt' : (natOf s : Int) < 10 ^ x.length := by exact_mod_cast hlt
      omega
  subst hc0
  rw [Int.zero_mul] at i4
  exact congrArg AVal.str (fixS_of i1 (by omega) hs)
end Go.Proofs.YthiiakghjoeikaaGreatDoor
