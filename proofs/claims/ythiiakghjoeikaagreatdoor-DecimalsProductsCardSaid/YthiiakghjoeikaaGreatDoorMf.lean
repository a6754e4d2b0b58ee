/-
  Texts of this proof, joined: DcS, DcT, DcO, DcP, DcU, DcV, DcQ, DcW, DcX, DcY, DcZ, DdA.
  Conditions: none.
-/
import Derived.Test.YthiiakghjoeikaaGreatDoorMe
import Derived.Test.YthiiakghjoeikaaGreatDoorMd
import Derived.Test.YthiiakghjoeikaaGreatDoorMc
set_option linter.unusedSimpArgs false
set_option linter.unnecessarySimpa false
set_option linter.unusedVariables false
/-
  The statements' big numbers: rows of digits.
  Conditions: none.
-/
namespace Go.Proofs.YthiiakghjoeikaaGreatDoor
open Go.AM
open Go.Proofs
open Go.Dec
open Go.Lib (decDigits)
set_option maxRecDepth 100000

theorem c_digitO (w₀ : World) (h : AHeap) (neg : Bool) (k : Nat) (zs : List Int) (c : AM.Cap) (hk : h k = some ⟨intCells zs, 0⟩) (hl : zs.length ≤ 1048576) (i : Nat) (hi : i ≤ 1048576) :
    ACall Tryz.prog w₀ 55 [.agg [.bool neg, .slice (.own k) 0 zs.length c], .int .i64 i] h (fun v h' => v = .int .i64 (zs.getD i 0) ∧ h' = h) := by
  refine acall_intro (n := 15) (rs := [.tmp 4]) Tryz.func55 rfl rfl rfl rfl (Nat.le_of_ble_eq_true rfl) ?_
  simp only [initSlots]
  -- region 0  law.go:64
  refine awp_rseq [1, 2] (by rfl) fun K hK => ?_
  refine aOps_box (by rfl) (by rfl) (by rfl) fun k0q0 hk0q0 => ?_
  try have hf_0q0 : h k0q0 = none := by first | assumption | (simp only [AHeap.set_none] at hk0q0; simp only [hk0q0])
  have hkk : k ≠ k0q0 := fun e => by rw [e, hk0q0] at hk; cases hk
  simp (decide := true) only [aOps_nil, ev, absV, absS, putD, Slots.put, Slots.get, Slots.keep, if_true, if_false, true_and, ↓ap_assign, pop_assign, AVal.cells, Nat.zero_add]
  repeat (with_reducible refine And.intro ?_ ?_; · first | trivial | omega | (intro hg; simp only [Bool.and_eq_true, Bool.or_eq_true, Bool.not_eq_true', Bool.and_eq_false_iff, Bool.or_eq_false_iff, Bool.not_eq_false', decide_eq_true_eq, decide_eq_false_iff_not, eqNil] at hg; omega) | (simp only [List.length_append, List.length_map, List.length_range, List.length_replicate, List.length_take, List.length_drop, List.length_cons, List.length_nil, List.length_set, List.length_reverse]; omega))
  apply hK; clear hK K
  refine awp_seq ?_
  -- region 1  law.go:65
  refine awp_rseq [1, 2, 9] (by rfl) fun K hK => ?_
  simp (decide := true) only [aOps_nil, ev, putD, Slots.put, Slots.get, Slots.keep, if_true, if_false, true_and, ↓ap_move, pop_move, ↓ap_fieldAddr, pop_fieldAddr, fa40_1, ↓ap_loadL, apL_mk, pLoad_one ag38, ↓ap_len, pop_len, pLen_slice Tryz.underlying38, ↓ap_binOp, pop_binOp, isNilC_tmp, cond_false, pBinX_int, pI_lss, rd_any, List.getD_cons_zero, List.getD_cons_succ, Nat.zero_add, lv_slice, Nat.zero_add]
  repeat (with_reducible refine And.intro ?_ ?_; · first | trivial | omega | (intro hg; simp only [Bool.and_eq_true, Bool.or_eq_true, Bool.not_eq_true', Bool.and_eq_false_iff, Bool.or_eq_false_iff, Bool.not_eq_false', decide_eq_true_eq, decide_eq_false_iff_not, eqNil] at hg; omega) | (simp only [List.length_append, List.length_map, List.length_range, List.length_replicate, List.length_take, List.length_drop, List.length_cons, List.length_nil, List.length_set, List.length_reverse]; omega))
  apply hK; clear hK K
  refine awp_cond (b := _) rfl (fun hb1 => ?_) (fun hb1 => ?_)
  · try simp only [decide_eq_true_eq] at hb1
    have hg := intCells_getD (zs := zs) (i := i) (by omega)
    -- region 2  law.go:66
    refine awp_rseq [4] (by rfl) fun K hK => ?_
    simp (decide := true) only [aOps_nil, ev, putD, Slots.put, Slots.get, Slots.keep, if_true, if_false, true_and, ↓ap_fieldAddr, pop_fieldAddr, fa40_1, ↓ap_loadL, apL_mk, pLoad_one ag38, ↓ap_move, pop_move, ↓ap_indexAddrL, pIndexAddr_slice Tryz.underlying38 sz3, pLoad_one ag3, ↓ap_assign, pop_assign, rd_any, List.getD_cons_zero, List.getD_cons_succ, Nat.zero_add, lv_int, lv_slice, rd_ne w₀ _ _ hkk, rd_own w₀ hk, Int.toNat_natCast, Nat.mul_one, Nat.zero_add, hg, lv_int]
    repeat (with_reducible refine And.intro ?_ ?_; · first | trivial | omega | (intro hg; simp only [Bool.and_eq_true, Bool.or_eq_true, Bool.not_eq_true', Bool.and_eq_false_iff, Bool.or_eq_false_iff, Bool.not_eq_false', decide_eq_true_eq, decide_eq_false_iff_not, eqNil] at hg; omega) | (simp only [List.length_append, List.length_map, List.length_range, List.length_replicate, List.length_take, List.length_drop, List.length_cons, List.length_nil, List.length_set, List.length_reverse]; omega))
    apply hK; clear hK K
    refine awp_ret ?_
    try simp only [thenA_ret]
    refine retA_ret h (by repeat (first | exact Sub.refl _ | assumption | refine Sub.trans_set ?_ (by assumption))) (resPre_tmp (resPre_nil)) ?_
    simp (decide := true) only [Slots.get, if_true, and_true, resOf_one]
    all_goals first | rfl | exact ⟨rfl, rfl⟩ | (simp (decide := true) only [if_true, if_false, *]; done) | (trace_state; fail)
  · try simp only [decide_eq_false_iff_not] at hb1
    refine awp_skip ?_
    change Awp _ _ _ _ _ _ _
    -- region 3  law.go:68
    refine awp_rseq [4] (by rfl) fun K hK => ?_
    simp (decide := true) only [aOps_nil, ev, absV, absS, putD, Slots.put, Slots.keep, if_true, if_false, true_and, ↓ap_assign, pop_assign]
    repeat (with_reducible refine And.intro ?_ ?_; · first | trivial | omega | (intro hg; simp only [Bool.and_eq_true, Bool.or_eq_true, Bool.not_eq_true', Bool.and_eq_false_iff, Bool.or_eq_false_iff, Bool.not_eq_false', decide_eq_true_eq, decide_eq_false_iff_not, eqNil] at hg; omega) | (simp only [List.length_append, List.length_map, List.length_range, List.length_replicate, List.length_take, List.length_drop, List.length_cons, List.length_nil, List.length_set, List.length_reverse]; omega))
    apply hK; clear hK K
    refine awp_ret ?_
    try simp only [thenA_ret, inBlockA_ret]
    refine retA_ret h (by repeat (first | exact Sub.refl _ | assumption | refine Sub.trans_set ?_ (by assumption))) (resPre_tmp (resPre_nil)) ?_
    simp (decide := true) only [Slots.get, if_true, and_true, resOf_one]
    rw [List.getD, List.getElem?_eq_none (by omega)]
    rfl
theorem c_digitN (w₀ : World) (h : AHeap) (neg : Bool) (i : Nat) (hi : i ≤ 1048576) :
    ACall Tryz.prog w₀ 55 [.agg [.bool neg, .nilSlice], .int .i64 i] h (fun v h' => v = .int .i64 0 ∧ h' = h) := by
  refine acall_intro (n := 15) (rs := [.tmp 4]) Tryz.func55 rfl rfl rfl rfl (Nat.le_of_ble_eq_true rfl) ?_
  simp only [initSlots]
  -- region 0  law.go:64
  refine awp_rseq [1, 2] (by rfl) fun K hK => ?_
  refine aOps_box (by rfl) (by rfl) (by rfl) fun k0q0 hk0q0 => ?_
  try have hf_0q0 : h k0q0 = none := by first | assumption | (simp only [AHeap.set_none] at hk0q0; simp only [hk0q0])
  skip
  simp (decide := true) only [aOps_nil, ev, absV, absS, putD, Slots.put, Slots.get, Slots.keep, if_true, if_false, true_and, ↓ap_assign, pop_assign, AVal.cells, Nat.zero_add]
  repeat (with_reducible refine And.intro ?_ ?_; · first | trivial | omega | (intro hg; simp only [Bool.and_eq_true, Bool.or_eq_true, Bool.not_eq_true', Bool.and_eq_false_iff, Bool.or_eq_false_iff, Bool.not_eq_false', decide_eq_true_eq, decide_eq_false_iff_not, eqNil] at hg; omega) | (simp only [List.length_append, List.length_map, List.length_range, List.length_replicate, List.length_take, List.length_drop, List.length_cons, List.length_nil, List.length_set, List.length_reverse]; omega))
  apply hK; clear hK K
  refine awp_seq ?_
  -- region 1  law.go:65
  refine awp_rseq [1, 2, 9] (by rfl) fun K hK => ?_
  simp (decide := true) only [aOps_nil, ev, putD, Slots.put, Slots.get, Slots.keep, if_true, if_false, true_and, ↓ap_move, pop_move, ↓ap_fieldAddr, pop_fieldAddr, fa40_1, ↓ap_loadL, apL_mk, pLoad_one ag38, ↓ap_len, pop_len, pLen_nil Tryz.underlying38, ↓ap_binOp, pop_binOp, isNilC_tmp, cond_false, pBinX_int, pI_lss, rd_any, List.getD_cons_zero, List.getD_cons_succ, Nat.zero_add, lv_nilSlice]
  repeat (with_reducible refine And.intro ?_ ?_; · first | trivial | omega | (intro hg; simp only [Bool.and_eq_true, Bool.or_eq_true, Bool.not_eq_true', Bool.and_eq_false_iff, Bool.or_eq_false_iff, Bool.not_eq_false', decide_eq_true_eq, decide_eq_false_iff_not, eqNil] at hg; omega) | (simp only [List.length_append, List.length_map, List.length_range, List.length_replicate, List.length_take, List.length_drop, List.length_cons, List.length_nil, List.length_set, List.length_reverse]; omega))
  apply hK; clear hK K
  refine awp_cond (b := _) rfl (fun hb1 => ?_) (fun hb1 => ?_)
  · exact absurd hb1 (by simp <;> omega)
  · try simp only [decide_eq_false_iff_not] at hb1
    refine awp_skip ?_
    change Awp _ _ _ _ _ _ _
    -- region 3  law.go:68
    refine awp_rseq [4] (by rfl) fun K hK => ?_
    simp (decide := true) only [aOps_nil, ev, absV, absS, putD, Slots.put, Slots.keep, if_true, if_false, true_and, ↓ap_assign, pop_assign]
    repeat (with_reducible refine And.intro ?_ ?_; · first | trivial | omega | (intro hg; simp only [Bool.and_eq_true, Bool.or_eq_true, Bool.not_eq_true', Bool.and_eq_false_iff, Bool.or_eq_false_iff, Bool.not_eq_false', decide_eq_true_eq, decide_eq_false_iff_not, eqNil] at hg; omega) | (simp only [List.length_append, List.length_map, List.length_range, List.length_replicate, List.length_take, List.length_drop, List.length_cons, List.length_nil, List.length_set, List.length_reverse]; omega))
    apply hK; clear hK K
    refine awp_ret ?_
    try simp only [thenA_ret, inBlockA_ret]
    refine retA_ret h (by repeat (first | exact Sub.refl _ | assumption | refine Sub.trans_set ?_ (by assumption))) (resPre_tmp (resPre_nil)) ?_
    simp (decide := true) only [Slots.get, if_true, and_true, resOf_one]
    all_goals first | rfl | exact ⟨rfl, rfl⟩ | (simp (decide := true) only [if_true, if_false, *]; done) | (trace_state; fail)
/-- A slice of ints whose row lies in the heap. -/
def HoldsZ (h : AHeap) (z : AVal) (zs : List Int) : Prop := (z = .nilSlice ∧ zs = []) ∨ ∃ k c, z = .slice (.own k) 0 zs.length c ∧ h k = some ⟨intCells zs, 0⟩
theorem HoldsZ.sub {h h' : AHeap} {z : AVal} {zs : List Int} (hz : HoldsZ h z zs) (hs : Sub h h') : HoldsZ h' z zs := by
  rcases hz with e | ⟨k, c, e1, e2⟩
  · exact .inl e
  · exact .inr ⟨k, c, e1, hs k _ e2⟩
theorem c_digit (w₀ : World) (h : AHeap) (neg : Bool) (z : AVal) (zs : List Int) (hz : HoldsZ h z zs) (hl : zs.length ≤ 1048576) (i : Nat) (hi : i ≤ 1048576) :
    ACall Tryz.prog w₀ 55 [.agg [.bool neg, z], .int .i64 i] h (fun v h' => v = .int .i64 (zs.getD i 0) ∧ h' = h) := by
  rcases hz with ⟨rfl, rfl⟩ | ⟨k, c, rfl, hk⟩
  · exact c_digitN w₀ h neg i hi
  · exact c_digitO w₀ h neg k zs c hk hl i hi

/-- The value of a row of digits, the last place first. -/
def leV (zs : List Int) : Int := valL zs.reverse
theorem leV_snoc (zs : List Int) (z : Int) : leV (zs ++ [z]) = z * 10 ^ zs.length + leV zs := by
  unfold leV
  rw [List.reverse_append, List.reverse_singleton, List.singleton_append, valL_cons, List.length_reverse]
theorem leV_cons (z : Int) (zs : List Int) : leV (z :: zs) = 10 * leV zs + z := by
  unfold leV
  rw [List.reverse_cons, valL_append, valL_cons]
  simp [valL]
  omega
def digZ (zs : List Int) : Prop := ∀ z ∈ zs, 0 ≤ z ∧ z ≤ 9
theorem leV_bound : ∀ (zs : List Int), digZ zs → 0 ≤ leV zs ∧ leV zs < 10 ^ zs.length
  | [], _ => by simp [leV, valL]
  | z :: zs, h => by
    have h1 := h z (List.mem_cons_self ..)
    obtain ⟨h2, h3⟩ := leV_bound zs fun x hx => h x (List.mem_cons_of_mem _ hx)
    rw [leV_cons, List.length_cons, Int.pow_succ]
    omega
end Go.Proofs.YthiiakghjoeikaaGreatDoor

/-
  The statements' big numbers: their order.
  Conditions: none.
-/
namespace Go.Proofs.YthiiakghjoeikaaGreatDoor
open Go.AM
open Go.Proofs
open Go.Dec
open Go.Lib (decDigits)
set_option maxRecDepth 100000

theorem HoldsZ.len {h : AHeap} {z : AVal} {zs : List Int} (hz : HoldsZ h z zs) {P : Program} {t e : TypeId} (ht : P.underlying t = some (.slice e)) : pLen P t z = ⟨True, .int .i64 zs.length⟩ := by
  rcases hz with ⟨rfl, rfl⟩ | ⟨k, c, rfl, _⟩ <;> simp [pLen, ht]
theorem HoldsZ.live {h : AHeap} {z : AVal} {zs : List Int} (hz : HoldsZ h z zs) : z.live = true := by
  rcases hz with ⟨rfl, rfl⟩ | ⟨k, c, rfl, _⟩ <;> rfl
theorem tail_getD (zs : List Int) (j : Nat) : zs.tail.getD j 0 = zs.getD (j + 1) 0 := by
  cases zs <;> rfl
theorem leV_step (zs : List Int) : leV zs = 10 * leV zs.tail + zs.getD 0 0 := by
  cases zs with
  | nil => rfl
  | cons z zs => exact leV_cons z zs
theorem digZ.tail {zs : List Int} (h : digZ zs) : digZ zs.tail := by
  cases zs with
  | nil => exact h
  | cons z zs => exact fun x hx => h x (List.mem_cons_of_mem _ hx)
theorem digZ.at {zs : List Int} (h : digZ zs) (j : Nat) : 0 ≤ zs.getD j 0 ∧ zs.getD j 0 ≤ 9 := by
  by_cases hj : j < zs.length
  · rw [List.getD, List.getElem?_eq_getElem hj]
    exact h _ (List.getElem_mem hj)
  · rw [List.getD, List.getElem?_eq_none (by omega)]
    exact ⟨by decide, by decide⟩
theorem leV_ext : ∀ (n : Nat) (x y : List Int), x.length ≤ n → y.length ≤ n → (∀ j, x.getD j 0 = y.getD j 0) → leV x = leV y
  | 0, x, y, hx, hy, _ => by
    rw [List.length_eq_zero_iff.1 (Nat.le_zero.1 hx), List.length_eq_zero_iff.1 (Nat.le_zero.1 hy)]
  | n + 1, x, y, hx, hy, h => by
    rw [leV_step x, leV_step y, h 0, leV_ext n x.tail y.tail (by rw [List.length_tail]; omega) (by rw [List.length_tail]; omega) fun j => by rw [tail_getD, tail_getD, h]]
theorem leV_lt : ∀ (i : Nat) (x y : List Int), digZ x → digZ y → (∀ j, i < j → x.getD j 0 = y.getD j 0) → x.getD i 0 < y.getD i 0 → leV x < leV y
  | 0, x, y, _, _, h, hl => by
    have e := leV_ext (max x.length y.length) x.tail y.tail (by rw [List.length_tail]; omega) (by rw [List.length_tail]; omega) fun j => by rw [tail_getD, tail_getD, h (j + 1) (by omega)]
    rw [leV_step x, leV_step y]
    omega
  | i + 1, x, y, hx, hy, h, hl => by
    have e := leV_lt i x.tail y.tail hx.tail hy.tail (fun j hj => by rw [tail_getD, tail_getD, h (j + 1) (by omega)]) (by rw [tail_getD, tail_getD]; exact hl)
    have a := hx.at 0
    have b := hy.at 0
    rw [leV_step x, leV_step y]
    omega

set_option maxHeartbeats 1000000 in
theorem c_less (w₀ : World) (h : AHeap) (n1 n2 : Bool) (z1 z2 : AVal) (x y : List Int) (hz1 : HoldsZ h z1 x) (hz2 : HoldsZ h z2 y) (hx : digZ x) (hy : digZ y) (lx : x.length ≤ 1000000) (ly : y.length ≤ 1000000) :
    ACall Tryz.prog w₀ 28 [.agg [.bool n1, z1], .agg [.bool n2, z2]] h (fun v h' => v = .bool (decide (leV x < leV y)) ∧ h' = h) := by
  have hl1 := hz1.live
  have hl2 := hz2.live
  refine acall_intro (n := 32) (rs := [.tmp 4]) Tryz.func28 rfl rfl rfl rfl (Nat.le_of_ble_eq_true rfl) ?_
  simp only [initSlots]
  -- region 0  law.go:72
  refine awp_rseq [2, 3] (by rfl) fun K hK => ?_
  refine aOps_box (by rfl) (by rfl) (by rfl) fun k0q0 hk0q0 => ?_
  try have hf_0q0 : h k0q0 = none := by first | assumption | (simp only [AHeap.set_none] at hk0q0; simp only [hk0q0])
  skip
  refine aOps_box (by rfl) (by rfl) (by rfl) fun k0q1 hk0q1 => ?_
  have ne_0q1_0q0 : k0q1 ≠ k0q0 := by simp only [AHeap.set_none] at hk0q1; simp only [hk0q1, ne_eq, not_false_eq_true]
  try have hf_0q1 : h k0q1 = none := by first | assumption | (simp only [AHeap.set_none] at hk0q1; simp only [hk0q1])
  skip
  simp (decide := true) only [aOps_nil, ev, absV, absS, putD, Slots.put, Slots.get, Slots.keep, if_true, if_false, true_and, ↓ap_assign, pop_assign, AVal.cells, Nat.zero_add]
  repeat (with_reducible refine And.intro ?_ ?_; · first | trivial | omega | (intro hg; simp only [Bool.and_eq_true, Bool.or_eq_true, Bool.not_eq_true', Bool.and_eq_false_iff, Bool.or_eq_false_iff, Bool.not_eq_false', decide_eq_true_eq, decide_eq_false_iff_not, eqNil] at hg; omega) | (simp only [List.length_append, List.length_map, List.length_range, List.length_replicate, List.length_take, List.length_drop, List.length_cons, List.length_nil, List.length_set, List.length_reverse]; omega))
  apply hK; clear hK K
  refine awp_seq ?_
  -- region 1  law.go:73
  refine awp_rseq [2, 3, 5] (by rfl) fun K hK => ?_
  simp (decide := true) only [aOps_nil, ev, absV, absS, putD, Slots.put, Slots.get, Slots.keep, if_true, if_false, true_and, ↓ap_fieldAddr, pop_fieldAddr, fa40_1, ↓ap_loadL, apL_mk, pLoad_one ag38, ↓ap_len, pop_len, ↓ap_max, pop_max, pMax_int, evs, List.map_cons, List.map_nil, ↓ap_binOp, pop_binOp, isNilC_int, cond_false, pBinX_int, pI_sub, ↓ap_assign, pop_assign, rd_ne', ne_eq, not_false_eq_true, ne_0q1_0q0.symm, rd_any, List.getD_cons_zero, List.getD_cons_succ, Nat.zero_add, hl1, hl2, hz1.len Tryz.underlying38, hz2.len Tryz.underlying38]
  try simp (disch := omega) only [wrap_i64]
  repeat (with_reducible refine And.intro ?_ ?_; · first | trivial | omega | (intro hg; simp only [Bool.and_eq_true, Bool.or_eq_true, Bool.not_eq_true', Bool.and_eq_false_iff, Bool.or_eq_false_iff, Bool.not_eq_false', decide_eq_true_eq, decide_eq_false_iff_not, eqNil] at hg; omega) | (simp only [List.length_append, List.length_map, List.length_range, List.length_replicate, List.length_take, List.length_drop, List.length_cons, List.length_nil, List.length_set, List.length_reverse]; omega))
  apply hK; clear hK K
  refine awp_block ?_
  refine awp_loopG [2, 3, 5] (fun g : Nat => [(2, .ptr (.own k0q0) 0), (3, .ptr (.own k0q1) 0), (5, .int .i64 ((g : Int) - 1))]) (fun g : Nat => (h.set k0q0 ⟨[.bool n1, z1], 0⟩).set k0q1 ⟨[.bool n2, z2], 0⟩) (fun g : Nat => g ≤ 1000000 ∧ ∀ j, g ≤ j → x.getD j 0 = y.getD j 0) (fun g : Nat => g) (max x.length y.length) (by simp [Slots.keep]; omega) (Sub.refl _) ⟨by omega, fun j hj => by rw [List.getD, List.getD, List.getElem?_eq_none (by omega), List.getElem?_eq_none (by omega)]⟩ ?_
  rintro g ⟨hg, hgj⟩
  have hm1 : HoldsZ ((h.set k0q0 ⟨[.bool n1, z1], 0⟩).set k0q1 ⟨[.bool n2, z2], 0⟩) z1 x := hz1.sub (by repeat (first | exact Sub.refl _ | refine Sub.trans_set ?_ (by assumption)))
  have hm2 : HoldsZ ((h.set k0q0 ⟨[.bool n1, z1], 0⟩).set k0q1 ⟨[.bool n2, z2], 0⟩) z2 y := hz2.sub (by repeat (first | exact Sub.refl _ | refine Sub.trans_set ?_ (by assumption)))
  refine awp_seq ?_
  -- region 2  law.go:73
  refine awp_rseq [2, 3, 5, 15] (by rfl) fun K hK => ?_
  simp (decide := true) only [aOps_nil, ev, absV, absS, putD, Slots.put, Slots.get, Slots.keep, if_true, if_false, true_and, ↓ap_move, pop_move, ↓ap_binOp, pop_binOp, isNilC_int, cond_false, pBinX_int, pI_geq]
  repeat (with_reducible refine And.intro ?_ ?_; · first | trivial | omega | (intro hg; simp only [Bool.and_eq_true, Bool.or_eq_true, Bool.not_eq_true', Bool.and_eq_false_iff, Bool.or_eq_false_iff, Bool.not_eq_false', decide_eq_true_eq, decide_eq_false_iff_not, eqNil] at hg; omega) | (simp only [List.length_append, List.length_map, List.length_range, List.length_replicate, List.length_take, List.length_drop, List.length_cons, List.length_nil, List.length_set, List.length_reverse]; omega))
  apply hK; clear hK K
  refine awp_cond (b := _) rfl (fun hb1 => ?_) (fun hb1 => ?_)
  · try simp only [decide_eq_true_eq] at hb1
    obtain ⟨q, rfl⟩ : ∃ q, g = q + 1 := ⟨g - 1, by omega⟩
    have hq : ((q + 1 : Nat) : Int) - 1 = q := by omega
    rw [hq]
    refine awp_skip ?_
    change Awp _ _ _ _ _ _ _
    refine awp_seq ?_
    refine awp_block ?_
    -- region 4  law.go:74
    refine awp_dseq_any [2, 3, 5, 24] mixed (by kernel_rfl) (by rfl) fun K hK => ?_
    simp (decide := true) only [ev, putD, Slots.put, Slots.get, if_true, if_false, true_and, ↓vp_load, pop_load, pLoad_agg ag40 sz40, ↓vp_move, pop_move, rd_ne', ne_eq, not_false_eq_true, ne_0q1_0q0.symm, rd_any, cellsAt, List.getD_cons_zero, List.getD_cons_succ, Nat.zero_add, lv_bool, allLive, Bool.and_true, hl1]
    repeat (with_reducible refine And.intro ?_ ?_; · first | trivial | omega | (intro hg; simp only [Bool.and_eq_true, Bool.or_eq_true, Bool.not_eq_true', Bool.and_eq_false_iff, Bool.or_eq_false_iff, Bool.not_eq_false', decide_eq_true_eq, decide_eq_false_iff_not, eqNil] at hg; omega) | (simp only [List.length_append, List.length_map, List.length_range, List.length_replicate, List.length_take, List.length_drop, List.length_cons, List.length_nil, List.length_set, List.length_reverse]; omega))
    refine vOps_callV (V := .int .i64 (x.getD q 0)) (by rfl) (by rfl) (c_digit w₀ _ n1 z1 x hm1 (by omega) q (by omega)) ?_
    simp (decide := true) only [ev, putD, Slots.put, Slots.get, if_true, if_false, true_and, ↓vp_load, pop_load, pLoad_agg ag40 sz40, ↓vp_move, pop_move, rd_any, cellsAt, List.getD_cons_zero, List.getD_cons_succ, Nat.zero_add, lv_bool, allLive, Bool.and_true, hl2]
    repeat (with_reducible refine And.intro ?_ ?_; · first | trivial | omega | (intro hg; simp only [Bool.and_eq_true, Bool.or_eq_true, Bool.not_eq_true', Bool.and_eq_false_iff, Bool.or_eq_false_iff, Bool.not_eq_false', decide_eq_true_eq, decide_eq_false_iff_not, eqNil] at hg; omega) | (simp only [List.length_append, List.length_map, List.length_range, List.length_replicate, List.length_take, List.length_drop, List.length_cons, List.length_nil, List.length_set, List.length_reverse]; omega))
    refine vOps_callV (V := .int .i64 (y.getD q 0)) (by rfl) (by rfl) (c_digit w₀ _ n2 z2 y hm2 (by omega) q (by omega)) ?_
    simp (decide := true) only [vOps_nil, ev, putD, Slots.put, Slots.get, Slots.keep, if_true, if_false, true_and, ↓vp_binOp, pop_binOp, isNilC_tmp, cond_false, pBinX_int, pI_neq]
    repeat (with_reducible refine And.intro ?_ ?_; · first | trivial | omega | (intro hg; simp only [Bool.and_eq_true, Bool.or_eq_true, Bool.not_eq_true', Bool.and_eq_false_iff, Bool.or_eq_false_iff, Bool.not_eq_false', decide_eq_true_eq, decide_eq_false_iff_not, eqNil] at hg; omega) | (simp only [List.length_append, List.length_map, List.length_range, List.length_replicate, List.length_take, List.length_drop, List.length_cons, List.length_nil, List.length_set, List.length_reverse]; omega))
    apply hK; clear hK K
    refine awp_cond (b := _) rfl (fun hb2 => ?_) (fun hb2 => ?_)
    · try simp only [decide_eq_false_iff_not, Bool.not_eq_true'] at hb2
      -- region 5  law.go:75
      refine awp_dseq_any [4] mixed (by kernel_rfl) (by rfl) fun K hK => ?_
      simp (decide := true) only [ev, putD, Slots.put, Slots.get, if_true, if_false, true_and, ↓vp_load, pop_load, pLoad_agg ag40 sz40, ↓vp_move, pop_move, rd_ne', ne_eq, not_false_eq_true, ne_0q1_0q0.symm, rd_any, cellsAt, List.getD_cons_zero, List.getD_cons_succ, Nat.zero_add, lv_bool, allLive, Bool.and_true, hl1]
      repeat (with_reducible refine And.intro ?_ ?_; · first | trivial | omega | (intro hg; simp only [Bool.and_eq_true, Bool.or_eq_true, Bool.not_eq_true', Bool.and_eq_false_iff, Bool.or_eq_false_iff, Bool.not_eq_false', decide_eq_true_eq, decide_eq_false_iff_not, eqNil] at hg; omega) | (simp only [List.length_append, List.length_map, List.length_range, List.length_replicate, List.length_take, List.length_drop, List.length_cons, List.length_nil, List.length_set, List.length_reverse]; omega))
      refine vOps_callV (V := .int .i64 (x.getD q 0)) (by rfl) (by rfl) (c_digit w₀ _ n1 z1 x hm1 (by omega) q (by omega)) ?_
      simp (decide := true) only [ev, putD, Slots.put, Slots.get, if_true, if_false, true_and, ↓vp_load, pop_load, pLoad_agg ag40 sz40, ↓vp_move, pop_move, rd_any, cellsAt, List.getD_cons_zero, List.getD_cons_succ, Nat.zero_add, lv_bool, allLive, Bool.and_true, hl2]
      repeat (with_reducible refine And.intro ?_ ?_; · first | trivial | omega | (intro hg; simp only [Bool.and_eq_true, Bool.or_eq_true, Bool.not_eq_true', Bool.and_eq_false_iff, Bool.or_eq_false_iff, Bool.not_eq_false', decide_eq_true_eq, decide_eq_false_iff_not, eqNil] at hg; omega) | (simp only [List.length_append, List.length_map, List.length_range, List.length_replicate, List.length_take, List.length_drop, List.length_cons, List.length_nil, List.length_set, List.length_reverse]; omega))
      refine vOps_callV (V := .int .i64 (y.getD q 0)) (by rfl) (by rfl) (c_digit w₀ _ n2 z2 y hm2 (by omega) q (by omega)) ?_
      simp (decide := true) only [vOps_nil, ev, putD, Slots.put, Slots.get, Slots.keep, if_true, if_false, true_and, ↓vp_binOp, pop_binOp, isNilC_tmp, cond_false, pBinX_int, pI_lss, ↓vp_assign, pop_assign]
      repeat (with_reducible refine And.intro ?_ ?_; · first | trivial | omega | (intro hg; simp only [Bool.and_eq_true, Bool.or_eq_true, Bool.not_eq_true', Bool.and_eq_false_iff, Bool.or_eq_false_iff, Bool.not_eq_false', decide_eq_true_eq, decide_eq_false_iff_not, eqNil] at hg; omega) | (simp only [List.length_append, List.length_map, List.length_range, List.length_replicate, List.length_take, List.length_drop, List.length_cons, List.length_nil, List.length_set, List.length_reverse]; omega))
      apply hK; clear hK K
      refine awp_ret ?_
      try simp only [thenA_ret, inBlockA_ret]
      refine retA_ret h (by repeat (first | exact Sub.refl _ | assumption | refine Sub.trans_set ?_ (by assumption))) (resPre_tmp (resPre_nil)) ?_
      simp (decide := true) only [Slots.get, if_true, and_true, resOf_one]
      have hlt := leV_lt q x y hx hy (fun j hj => hgj j (by omega))
      have hgt := leV_lt q y x hy hx (fun j hj => (hgj j (by omega)).symm)
      by_cases c : x.getD q 0 < y.getD q 0
      · rw [decide_eq_true c, decide_eq_true (hlt c)]
      · have := hgt (by omega)
        rw [decide_eq_false c, decide_eq_false (by omega)]
    · try simp only [decide_eq_true_eq, Bool.not_eq_false'] at hb2
      refine awp_skip ?_
      change Awp _ _ _ _ _ _ _
      -- region 3  law.go:73
      refine awp_r [2, 3, 5] (by rfl) ?_
      simp (decide := true) only [aOps_nil, ev, absV, absS, putD, Slots.put, Slots.get, Slots.keep, if_true, if_false, true_and, ↓ap_move, pop_move, ↓ap_binOp, pop_binOp, isNilC_int, cond_false, pBinX_int, pI_sub, ↓ap_assign, pop_assign]
      try simp (disch := omega) only [wrap_i64]
      repeat (with_reducible refine And.intro ?_ ?_; · first | trivial | omega | (intro hg; simp only [Bool.and_eq_true, Bool.or_eq_true, Bool.not_eq_true', Bool.and_eq_false_iff, Bool.or_eq_false_iff, Bool.not_eq_false', decide_eq_true_eq, decide_eq_false_iff_not, eqNil] at hg; omega) | (simp only [List.length_append, List.length_map, List.length_range, List.length_replicate, List.length_take, List.length_drop, List.length_cons, List.length_nil, List.length_set, List.length_reverse]; omega))
      try simp only [thenA_normal]
      refine ⟨q, by rfl, Sub.refl _, ⟨by omega, fun j hj => ?_⟩, by omega⟩
      by_cases e : q = j
      · rw [← e]; omega
      · exact hgj j (by omega)
  · try simp only [decide_eq_false_iff_not] at hb1
    have hg0 : g = 0 := by omega
    refine awp_exit ?_
    change Awp _ _ _ _ _ _ _
    -- region 6  law.go:78
    refine awp_rseq [4] (by rfl) fun K hK => ?_
    simp (decide := true) only [aOps_nil, ev, absV, absS, putD, Slots.put, Slots.keep, if_true, if_false, true_and, ↓ap_assign, pop_assign]
    repeat (with_reducible refine And.intro ?_ ?_; · first | trivial | omega | (intro hg; simp only [Bool.and_eq_true, Bool.or_eq_true, Bool.not_eq_true', Bool.and_eq_false_iff, Bool.or_eq_false_iff, Bool.not_eq_false', decide_eq_true_eq, decide_eq_false_iff_not, eqNil] at hg; omega) | (simp only [List.length_append, List.length_map, List.length_range, List.length_replicate, List.length_take, List.length_drop, List.length_cons, List.length_nil, List.length_set, List.length_reverse]; omega))
    apply hK; clear hK K
    refine awp_ret ?_
    try simp only [thenA_ret, inBlockA_ret]
    refine retA_ret h (by repeat (first | exact Sub.refl _ | assumption | refine Sub.trans_set ?_ (by assumption))) (resPre_tmp (resPre_nil)) ?_
    simp (decide := true) only [Slots.get, if_true, and_true, resOf_one]
    have e := leV_ext (max x.length y.length) x y (by omega) (by omega) fun j => hgj j (by omega)
    rw [e, decide_eq_false (by omega)]
end Go.Proofs.YthiiakghjoeikaaGreatDoor

/-
  Decimals as numbers.
  Conditions: none.
-/
namespace Go.Proofs.YthiiakghjoeikaaGreatDoor
open Go.AM
open Go.Proofs
open Go.Dec
open Go.Lib (decDigits)
set_option maxRecDepth 100000

theorem canon_bound (neg : Bool) (n k L : Nat) (hL : 0 < L) (hn : n < 10 ^ L) : (canon neg n k).dig.length ≤ L ∧ (canon neg n k).scale ≤ k := by
  unfold canon
  split
  · exact ⟨by show 1 ≤ L; omega, by show (0 : Int) ≤ k; omega⟩
  · obtain ⟨h1, h2⟩ := strip_val k n
    refine ⟨(decDigits_lt hL).2 (Nat.lt_of_le_of_lt ?_ hn), by simp only; omega⟩
    have h3 : 10 ^ (strip n k).2 ≤ 10 ^ k := Nat.pow_le_pow_right (by omega) h2
    have h4 : (strip n k).1 * 10 ^ k ≤ n * 10 ^ k := by rw [h1]; exact Nat.mul_le_mul_left _ h3
    exact Nat.le_of_mul_le_mul_right h4 (Nat.pow_pos (by omega))
theorem canon_scale (neg : Bool) (n k : Nat) : 0 ≤ (canon neg n k).scale := by
  unfold canon
  split
  · decide
  · simp only; omega
theorem canon_all (neg : Bool) (n k : Nat) : (canon neg n k).dig.all dg = true := by
  unfold canon
  split
  · decide
  · exact decDigits_all _
theorem natOf_canon (neg : Bool) (n k : Nat) : natOf (canon neg n k).dig = (if n = 0 then 0 else (strip n k).1) ∧ (canon neg n k).scale = (if n = 0 then (0 : Int) else ((strip n k).2 : Int)) ∧ (canon neg n k).neg = (if n = 0 then false else neg) := by
  unfold canon
  split
  · exact ⟨rfl, rfl, rfl⟩
  · exact ⟨natOf_decDigits _, rfl, rfl⟩
theorem canon_at (neg : Bool) (n k : Nat) : natOf (canon neg n k).dig * 10 ^ (k - (canon neg n k).scale.toNat) = n ∧ (canon neg n k).scale.toNat ≤ k := by
  obtain ⟨h1, h2, _⟩ := natOf_canon neg n k
  by_cases hn : n = 0
  · rw [h1, h2, if_pos hn, if_pos hn, hn]
    exact ⟨Nat.zero_mul _, Nat.zero_le _⟩
  · rw [h1, h2, if_neg hn, if_neg hn, Int.toNat_natCast]
    obtain ⟨s1, s2⟩ := strip_val k n
    refine ⟨?_, s2⟩
    have hp : 0 < 10 ^ (strip n k).2 := Nat.pow_pos (by omega)
    refine Nat.eq_of_mul_eq_mul_right hp ?_
    rw [Nat.mul_assoc, ← Nat.pow_add, Nat.sub_add_cancel s2, s1]
theorem canon_self (neg : Bool) (n k : Nat) : canon (canon neg n k).neg (natOf (canon neg n k).dig) (canon neg n k).scale.toNat = canon neg n k := by
  obtain ⟨h1, h2, h3⟩ := natOf_canon neg n k
  by_cases hn : n = 0
  · subst hn; rfl
  · rw [h1, h2, h3, if_neg hn, if_neg hn, if_neg hn, Int.toNat_natCast]
    have hs : strip (strip n k).1 (strip n k).2 = ((strip n k).1, (strip n k).2) := strip_done (strip_end k n)
    unfold canon
    rw [if_neg (strip_pos k n hn), if_neg hn, hs]
theorem canon_ne (neg : Bool) (n k : Nat) : (canon neg n k).dig ≠ [] := by
  unfold canon
  split
  · simp [zeroD]
  · exact decDigits_ne _
theorem check_canon (neg : Bool) (n k : Nat) (h : long (canon neg n k) ≤ 62) : checkE (canon neg n k) = 0 := by
  have h0 := canon_scale neg n k
  unfold long at h
  unfold checkE
  rw [if_pos]
  refine ⟨?_, by omega, h0, by omega, ?_⟩
  · unfold numB
    rw [canon_all, Bool.and_true, decide_eq_false (canon_ne neg n k)]
    rfl
  · rw [normE, show (-(canon neg n k).scale).toNat = 0 by omega, Nat.pow_zero, Nat.mul_one, canon_self, resE_ok (by unfold long; omega)]
theorem val_canon {d : D} (h : checkE d = 0) : d = canon d.neg (natOf d.dig) d.scale.toNat ∧ long d ≤ 62 := by
  obtain ⟨sd, _, _, hn⟩ := Small_of_check h
  have ha1 := sd.l
  have ha2 := sd.s0
  have ha3 := sd.s1
  have hl : long d ≤ 62 := by unfold long; omega
  rw [normE, show (-d.scale).toNat = 0 by omega, Nat.pow_zero, Nat.mul_one] at hn
  unfold resE at hn
  split at hn
  · cases hn
  · exact ⟨(Prod.mk.inj hn).1.symm, hl⟩
theorem long_canon (neg : Bool) (n k : Nat) (hn : n < 10 ^ 62) (hk : k ≤ 62) : long (canon neg n k) ≤ 62 := by
  obtain ⟨c1, c2⟩ := canon_bound neg n k 62 (by omega) hn
  unfold long
  omega
theorem alV_at {a b : D} (sa : Small a) (sb : Small b) (K : Nat) (ha : a.scale ≤ K) (hb : b.scale ≤ K) : alV a b * 10 ^ (K - (alS a b).toNat) = natOf a.dig * 10 ^ (K - a.scale.toNat) ∧ (alS a b).toNat ≤ K ∧ 0 ≤ alS a b := by
  have h1 := sa.s0
  have h2 := sb.s0
  have hS : alS a b = max a.scale b.scale := rfl
  refine ⟨?_, by omega, by omega⟩
  rw [alV, Nat.mul_assoc, ← Nat.pow_add]
  congr 2
  omega
theorem norm_at (neg : Bool) (n : Nat) (S : Int) (K : Nat) (h0 : 0 ≤ S) (hK : S.toNat ≤ K) : normE neg n S = resE (canon neg (n * 10 ^ (K - S.toNat)) K) := by
  rw [normE, show (-S).toNat = 0 by omega, Nat.pow_zero, Nat.mul_one]
  have := canon_mul neg (K - S.toNat) n S.toNat
  rw [show S.toNat + (K - S.toNat) = K by omega] at this
  rw [this]
theorem add_at {a b : D} (ca : checkE a = 0) (cb : checkE b = 0) (K : Nat) (ha : a.scale ≤ K) (hb : b.scale ≤ K) :
    addE a b = if a.neg = b.neg then resE (canon a.neg (natOf a.dig * 10 ^ (K - a.scale.toNat) + natOf b.dig * 10 ^ (K - b.scale.toNat)) K)
      else if natOf b.dig * 10 ^ (K - b.scale.toNat) ≤ natOf a.dig * 10 ^ (K - a.scale.toNat) then resE (canon a.neg (natOf a.dig * 10 ^ (K - a.scale.toNat) - natOf b.dig * 10 ^ (K - b.scale.toNat)) K)
      else resE (canon b.neg (natOf b.dig * 10 ^ (K - b.scale.toNat) - natOf a.dig * 10 ^ (K - a.scale.toNat)) K) := by
  obtain ⟨sa, _, _, _⟩ := Small_of_check ca
  obtain ⟨sb, _, _, _⟩ := Small_of_check cb
  obtain ⟨e1, e2, e3⟩ := alV_at sa sb K ha hb
  obtain ⟨f1, _, _⟩ := alV_at sb sa K hb ha
  rw [alS_comm b a] at f1
  have hp : 0 < 10 ^ (K - (alS a b).toNat) := Nat.pow_pos (by omega)
  rw [addE, if_pos ⟨ca, cb⟩, norm_at _ _ _ K e3 e2, norm_at _ _ _ K e3 e2, norm_at _ _ _ K e3 e2, Nat.add_mul, Nat.sub_mul, Nat.sub_mul, e1, f1]
  by_cases c : alV b a ≤ alV a b
  · have : natOf b.dig * 10 ^ (K - b.scale.toNat) ≤ natOf a.dig * 10 ^ (K - a.scale.toNat) := by rw [← e1, ← f1]; exact Nat.mul_le_mul_right _ c
    rw [if_pos c, if_pos this]
  · have : ¬ natOf b.dig * 10 ^ (K - b.scale.toNat) ≤ natOf a.dig * 10 ^ (K - a.scale.toNat) := by
      rw [← e1, ← f1]
      exact fun h => c (Nat.le_of_mul_le_mul_right h hp)
    rw [if_neg c, if_neg this]
end Go.Proofs.YthiiakghjoeikaaGreatDoor

/-
  Numbers from plain data are numbers.
  Conditions: none.
-/
namespace Go.Proofs.YthiiakghjoeikaaGreatDoor
open Go.AM
open Go.Proofs
open Go.Dec
open Go.Lib (decDigits)
set_option maxRecDepth 100000

theorem ofN_check (neg : Bool) (bs : List UInt8) (sc : UInt8) : checkE (ofN neg bs sc) = 0 := by
  unfold ofN
  refine check_canon _ _ _ (long_canon _ _ _ ?_ (by omega))
  have h1 := natOf_lt _ (digN_all bs)
  rw [digN_len] at h1
  exact Nat.lt_of_lt_of_le h1 (Nat.pow_le_pow_right (by omega) (by omega))
theorem check_len {d : D} (h : checkE d = 0) : d.dig.length ≤ 9223372036854775807 := by
  have := (Small_of_check h).1.l
  omega
end Go.Proofs.YthiiakghjoeikaaGreatDoor

/-
  The statements' big numbers: as decimals.
  Conditions: none.
-/
namespace Go.Proofs.YthiiakghjoeikaaGreatDoor
open Go.AM
open Go.Proofs
open Go.Dec
open Go.Lib (decDigits)
set_option maxRecDepth 100000

theorem digZ.rev {zs : List Int} (h : digZ zs) : digZ zs.reverse := fun x hx => h x (List.mem_reverse.1 hx)
theorem chL_snoc (a : List Int) (z : Int) : chL (a ++ [z]) = chL a ++ [dch z.toNat] := by simp [chL]
theorem chL_len (a : List Int) : (chL a).length = a.length := by simp [chL]
theorem drop_step {zs : List Int} {q : Nat} (h : q < zs.length) : (zs.drop q).reverse = (zs.drop (q + 1)).reverse ++ [zs.getD q 0] := by
  rw [List.drop_eq_getElem_cons h, List.reverse_cons, List.getD, List.getElem?_eq_getElem h]
  rfl

set_option maxHeartbeats 1000000 in
theorem c_number12 (w₀ : World) (h : AHeap) (neg : Bool) (z : AVal) (zs : List Int) (hz : HoldsZ h z zs) (hd : digZ zs) (lz : zs.length ≤ 1000000) (scale : Int) (s0 : 0 ≤ scale) (s1 : scale ≤ 1073741824) :
    ACall Tryz.prog w₀ 21 [.agg [.bool neg, z], .int .i64 scale] h (fun v h' => v = decA (canon neg (leV zs).toNat scale.toNat) ∧ h' = h) := by
  have hlz := hz.live
  obtain ⟨nv, na⟩ := natOf_chL zs.reverse hd.rev
  have nv' : natOf (chL zs.reverse) = (leV zs).toNat := by
    have : valL zs.reverse = leV zs := rfl
    omega
  refine acall_intro (n := 28) (rs := [.cell 4 27]) Tryz.func21 rfl rfl rfl rfl (Nat.le_of_ble_eq_true rfl) ?_
  simp only [initSlots]
  -- region 0  law.go:126
  refine awp_rseq [1, 2, 4] (by rfl) fun K hK => ?_
  refine aOps_box (by rfl) (by rfl) (by rfl) fun k0q0 hk0q0 => ?_
  try have hf_0q0 : h k0q0 = none := by first | assumption | (simp only [AHeap.set_none] at hk0q0; simp only [hk0q0])
  skip
  refine aOps_alloc ze27 (cs := [.bool false, .str [], .int .i64 0]) (by rfl) fun k0q1 hk0q1 => ?_
  have ne_0q1_0q0 : k0q1 ≠ k0q0 := by simp only [AHeap.set_none] at hk0q1; simp only [hk0q1, ne_eq, not_false_eq_true]
  try have hf_0q1 : h k0q1 = none := by first | assumption | (simp only [AHeap.set_none] at hk0q1; simp only [hk0q1])
  simp (decide := true) only [aOps_nil, ev, putD, Slots.put, Slots.get, Slots.keep, if_true, if_false, AVal.cells, Nat.zero_add]
  repeat (with_reducible refine And.intro ?_ ?_; · first | trivial | omega | (intro hg; simp only [Bool.and_eq_true, Bool.or_eq_true, Bool.not_eq_true', Bool.and_eq_false_iff, Bool.or_eq_false_iff, Bool.not_eq_false', decide_eq_true_eq, decide_eq_false_iff_not, eqNil] at hg; omega) | (simp only [List.length_append, List.length_map, List.length_range, List.length_replicate, List.length_take, List.length_drop, List.length_cons, List.length_nil, List.length_set, List.length_reverse]; omega))
  apply hK; clear hK K
  -- region 1  law.go:127
  refine awp_rseq [1, 2, 4, 5] (by rfl) fun K hK => ?_
  simp (decide := true) only [aOps_nil, ev, absV, absS, putD, Slots.put, Slots.keep, if_true, if_false, true_and, ↓ap_assign, pop_assign]
  repeat (with_reducible refine And.intro ?_ ?_; · first | trivial | omega | (intro hg; simp only [Bool.and_eq_true, Bool.or_eq_true, Bool.not_eq_true', Bool.and_eq_false_iff, Bool.or_eq_false_iff, Bool.not_eq_false', decide_eq_true_eq, decide_eq_false_iff_not, eqNil] at hg; omega) | (simp only [List.length_append, List.length_map, List.length_range, List.length_replicate, List.length_take, List.length_drop, List.length_cons, List.length_nil, List.length_set, List.length_reverse]; omega))
  apply hK; clear hK K
  refine awp_seq ?_
  -- region 2  law.go:128
  refine awp_rseq [1, 2, 4, 5, 6] (by rfl) fun K hK => ?_
  simp (decide := true) only [aOps_nil, ev, absV, absS, putD, Slots.put, Slots.get, Slots.keep, if_true, if_false, true_and, ↓ap_fieldAddr, pop_fieldAddr, fa40_1, ↓ap_loadL, apL_mk, pLoad_one ag38, ↓ap_len, pop_len, ↓ap_binOp, pop_binOp, isNilC_int, cond_false, pBinX_int, pI_sub, ↓ap_assign, pop_assign, rd_ne', ne_eq, not_false_eq_true, ne_0q1_0q0.symm, rd_any, List.getD_cons_zero, List.getD_cons_succ, Nat.zero_add, hlz, hz.len Tryz.underlying38]
  try simp (disch := omega) only [wrap_i64]
  repeat (with_reducible refine And.intro ?_ ?_; · first | trivial | omega | (intro hg; simp only [Bool.and_eq_true, Bool.or_eq_true, Bool.not_eq_true', Bool.and_eq_false_iff, Bool.or_eq_false_iff, Bool.not_eq_false', decide_eq_true_eq, decide_eq_false_iff_not, eqNil] at hg; omega) | (simp only [List.length_append, List.length_map, List.length_range, List.length_replicate, List.length_take, List.length_drop, List.length_cons, List.length_nil, List.length_set, List.length_reverse]; omega))
  apply hK; clear hK K
  refine awp_block ?_
  refine awp_loopG [1, 2, 4, 5, 6] (fun g : Nat => [(1, .int .i64 scale), (2, .ptr (.own k0q0) 0), (4, .ptr (.own k0q1) 0), (5, .str (chL (zs.drop g).reverse)), (6, .int .i64 ((g : Int) - 1))]) (fun g : Nat => (h.set k0q0 ⟨[.bool neg, z], 0⟩).set k0q1 ⟨[.bool false, .str [], .int .i64 0], 0⟩) (fun g : Nat => g ≤ zs.length) (fun g : Nat => g) zs.length (by simp [chL, Slots.keep]) (Sub.refl _) (Nat.le_refl _) ?_
  rintro g hg
  have hcl : (chL (zs.drop g).reverse).length ≤ 1000000 := by rw [chL_len, List.length_reverse, List.length_drop]; omega
  refine awp_seq ?_
  -- region 3  law.go:128
  refine awp_rseq [1, 2, 4, 5, 6, 12] (by rfl) fun K hK => ?_
  simp (decide := true) only [aOps_nil, ev, absV, absS, putD, Slots.put, Slots.get, Slots.keep, if_true, if_false, true_and, ↓ap_move, pop_move, ↓ap_binOp, pop_binOp, isNilC_int, cond_false, pBinX_int, pI_geq]
  repeat (with_reducible refine And.intro ?_ ?_; · first | trivial | omega | (intro hg; simp only [Bool.and_eq_true, Bool.or_eq_true, Bool.not_eq_true', Bool.and_eq_false_iff, Bool.or_eq_false_iff, Bool.not_eq_false', decide_eq_true_eq, decide_eq_false_iff_not, eqNil] at hg; omega) | (simp only [List.length_append, List.length_map, List.length_range, List.length_replicate, List.length_take, List.length_drop, List.length_cons, List.length_nil, List.length_set, List.length_reverse]; omega))
  apply hK; clear hK K
  refine awp_cond (b := _) rfl (fun hb1 => ?_) (fun hb1 => ?_)
  · try simp only [decide_eq_true_eq] at hb1
    obtain ⟨q, rfl⟩ : ∃ q, g = q + 1 := ⟨g - 1, by omega⟩
    have hq : ((q + 1 : Nat) : Int) - 1 = q := by omega
    rw [hq]
    obtain ⟨k, c, rfl, hk⟩ := hz.resolve_left (fun e => by rw [e.2] at hg; simp at hg)
    have hka : k ≠ k0q0 := fun e => by rw [e, hk0q0] at hk; cases hk
    have hkb : k ≠ k0q1 := fun e => by rw [e, hf_0q1] at hk; cases hk
    have hqd := hd.at q
    obtain ⟨n, hn⟩ : ∃ n : Nat, zs.getD q 0 = n := ⟨(zs.getD q 0).toNat, by omega⟩
    have hget : (intCells zs).getD q .dead = .int .i64 (n : Int) := by rw [intCells_getD (by omega), hn]
    refine awp_skip ?_
    change Awp _ _ _ _ _ _ _
    refine awp_seq ?_
    refine awp_block ?_
    -- region 5  law.go:129
    refine awp_r [1, 2, 4, 5, 6] (by rfl) ?_
    simp (decide := true) only [ev, putD, Slots.put, Slots.get, if_true, if_false, true_and, ↓ap_move, pop_move, ↓ap_fieldAddr, pop_fieldAddr, fa40_1, ↓ap_loadL, apL_mk, pLoad_one ag38, ↓ap_indexAddrL, pIndexAddr_slice Tryz.underlying38 sz3, pLoad_one ag3, rd_ne', ne_eq, not_false_eq_true, ne_0q1_0q0.symm, rd_any, List.getD_cons_zero, List.getD_cons_succ, Nat.zero_add, lv_int, decA, hlz, rd_ne w₀ _ _ hka, rd_ne w₀ _ _ hkb, rd_own w₀ hk, Int.toNat_natCast, Nat.mul_one, Nat.zero_add, hget, lv_int]
    repeat (with_reducible refine And.intro ?_ ?_; · first | trivial | omega | (intro hg; simp only [Bool.and_eq_true, Bool.or_eq_true, Bool.not_eq_true', Bool.and_eq_false_iff, Bool.or_eq_false_iff, Bool.not_eq_false', decide_eq_true_eq, decide_eq_false_iff_not, eqNil] at hg; omega) | (simp only [List.length_append, List.length_map, List.length_range, List.length_replicate, List.length_take, List.length_drop, List.length_cons, List.length_nil, List.length_set, List.length_reverse]; omega))
    refine aOps_callV (V := .str [dch n]) (by rfl) (by rfl) ((c_itoaSmall w₀ _ n (by omega)).val (by rw [decDigits_small (by omega)])) ?_
    simp (decide := true) only [aOps_nil, ev, putD, Slots.put, Slots.get, Slots.keep, if_true, if_false, true_and, ↓ap_binOp, pop_binOp, isNilC_tmp, cond_false, pBinX_str, pS_add, ↓ap_assign, pop_assign]
    repeat (with_reducible refine And.intro ?_ ?_; · first | trivial | omega | (intro hg; simp only [Bool.and_eq_true, Bool.or_eq_true, Bool.not_eq_true', Bool.and_eq_false_iff, Bool.or_eq_false_iff, Bool.not_eq_false', decide_eq_true_eq, decide_eq_false_iff_not, eqNil] at hg; omega) | (simp only [List.length_cons, List.length_nil]; omega))
    change Awp _ _ _ _ _ _ _
    -- region 4  law.go:128
    refine awp_r [1, 2, 4, 5, 6] (by rfl) ?_
    simp (decide := true) only [aOps_nil, ev, absV, absS, putD, Slots.put, Slots.get, Slots.keep, if_true, if_false, true_and, ↓ap_move, pop_move, ↓ap_binOp, pop_binOp, isNilC_int, cond_false, pBinX_int, pI_sub, ↓ap_assign, pop_assign]
    try simp (disch := omega) only [wrap_i64]
    repeat (with_reducible refine And.intro ?_ ?_; · first | trivial | omega | (intro hg; simp only [Bool.and_eq_true, Bool.or_eq_true, Bool.not_eq_true', Bool.and_eq_false_iff, Bool.or_eq_false_iff, Bool.not_eq_false', decide_eq_true_eq, decide_eq_false_iff_not, eqNil] at hg; omega) | (simp only [List.length_append, List.length_map, List.length_range, List.length_replicate, List.length_take, List.length_drop, List.length_cons, List.length_nil, List.length_set, List.length_reverse]; omega))
    try simp only [thenA_normal]
    refine ⟨q, ?_, Sub.refl _, by omega, by omega⟩
    rw [drop_step (q := q) (by omega), chL_snoc, hn]
    rfl
  · try simp only [decide_eq_false_iff_not] at hb1
    have hg0 : g = 0 := by omega
    rw [hg0, List.drop_zero]
    refine awp_exit ?_
    change Awp _ _ _ _ _ _ _
    -- region 6  law.go:131
    refine awp_rseq [4] (by rfl) fun K hK => ?_
    simp (decide := true) only [ev, putD, Slots.put, Slots.get, if_true, if_false, true_and, ↓ap_fieldAddr, pop_fieldAddr, fa40_0, ↓ap_loadL, apL_mk, pLoad_one ag4, ↓ap_move, pop_move, rd_ne', ne_eq, not_false_eq_true, ne_0q1_0q0.symm, rd_any, List.getD_cons_zero, Nat.zero_add, lv_bool]
    repeat (with_reducible refine And.intro ?_ ?_; · first | trivial | omega | (intro hg; simp only [Bool.and_eq_true, Bool.or_eq_true, Bool.not_eq_true', Bool.and_eq_false_iff, Bool.or_eq_false_iff, Bool.not_eq_false', decide_eq_true_eq, decide_eq_false_iff_not, eqNil] at hg; omega) | (simp only [List.length_append, List.length_map, List.length_range, List.length_replicate, List.length_take, List.length_drop, List.length_cons, List.length_nil, List.length_set, List.length_reverse]; omega))
    refine aOps_callV (V := decA (canon neg (leV zs).toNat scale.toNat)) (by rfl) (by rfl) ((c_Normal w₀ _ neg (chL zs.reverse) scale na (by rw [chL_len, List.length_reverse]; omega) s0 s1).val (by rw [nv'])) ?_
    refine aOps_store (by rfl) (by rfl) (by repeat (first | exact AHeap.set_same _ _ _ | assumption | refine (AHeap.set_ne _ _ (by first | assumption | exact Ne.symm (by assumption))).trans ?_)) sz27 (by rfl) (by rfl) (by first | exact Nat.le_refl _ | decide | (simp; done) | (simp; omega)) (Nat.zero_le _) (by rfl) ?_
    simp only [AHeap.set_set, AVal.cells]
    simp (decide := true) only [aOps_nil, ev, putD, Slots.put, Slots.get, Slots.keep, if_true, if_false, setAt, List.set_cons_zero, List.set_cons_succ, Nat.zero_add, Nat.reduceAdd, decA]
    repeat (with_reducible refine And.intro ?_ ?_; · first | trivial | omega | (intro hg; simp only [Bool.and_eq_true, Bool.or_eq_true, Bool.not_eq_true', Bool.and_eq_false_iff, Bool.or_eq_false_iff, Bool.not_eq_false', decide_eq_true_eq, decide_eq_false_iff_not, eqNil] at hg; omega) | (simp only [List.length_append, List.length_map, List.length_range, List.length_replicate, List.length_take, List.length_drop, List.length_cons, List.length_nil, List.length_set, List.length_reverse]; omega))
    apply hK; clear hK K
    refine awp_ret ?_
    try simp only [thenA_ret, inBlockA_ret]
    refine retA_ret h (by repeat (first | exact Sub.refl _ | assumption | refine Sub.trans_set ?_ (by assumption))) (?_) ?_
    · simp (decide := true) only [resPre, resV_cell, Slots.get, if_true, and_true, resV_cell, pLoad_agg ag27 sz27, rd_set, cellsAt, List.getD_cons_zero, List.getD_cons_succ, Nat.zero_add, Nat.reduceAdd, lv_bool, lv_int, lv_str, allLive, Bool.and_true, cellsAt, List.getD_cons_zero, List.getD_cons_succ, Nat.zero_add, Nat.reduceAdd, lv_bool, lv_int, lv_str, allLive, Bool.and_true]
    
    simp (decide := true) only [Slots.get, if_true, and_true, resOfG_one, resV_cell, pLoad_agg ag27 sz27, rd_set, cellsAt, List.getD_cons_zero, List.getD_cons_succ, Nat.zero_add, Nat.reduceAdd, lv_bool, lv_int, lv_str, allLive, Bool.and_true, cellsAt, List.getD_cons_zero, List.getD_cons_succ, Nat.zero_add, Nat.reduceAdd, lv_bool, lv_int, lv_str, allLive, Bool.and_true, decA]
    all_goals first | rfl | exact ⟨rfl, rfl⟩ | (simp (decide := true) only [if_true, if_false, *]; done) | (trace_state; fail)
end Go.Proofs.YthiiakghjoeikaaGreatDoor

/-
  A struct that holds a growing slice of ints: reading beside the slice's block, writing the struct.
  Conditions: none.
-/
namespace Go.Proofs.YthiiakghjoeikaaGreatDoor
open Go.AM
open Go.Proofs
open Go.Dec
open Go.Lib (decDigits)
set_option maxRecDepth 100000

theorem buf_ne {H : AHeap} {es : Nat} {b : Buf} (hb : bufOk H es (some b)) {j : Nat} {c : Blk} (hj : H j = some c) : j ≠ b.blk := fun e => by
  subst e
  have := hb.1
  rw [hj] at this
  cases this
theorem bufH_at {H : AHeap} {es : Nat} {b : Option Buf} (hb : bufOk H es b) {j : Nat} {c : Blk} (hj : H j = some c) : bufH H b j = some c := by
  cases b with
  | none => exact hj
  | some b => exact (AHeap.set_ne _ _ (buf_ne hb hj)).trans hj
theorem rd_buf (w₀ : World) {H : AHeap} {es : Nat} {b : Option Buf} (hb : bufOk H es b) {j : Nat} {c : Blk} (hj : H j = some c) (o : Nat) : rd w₀ (bufH H b) (.own j) o = c.cells.getD o .dead := rd_own w₀ (bufH_at hb hj) o
/-- The struct's block is written: the slice's block stays. -/
theorem bufH_set {H : AHeap} {es : Nat} {b : Option Buf} (hb : bufOk H es b) {j : Nat} {c : Blk} (hj : H j = some c) (c' : Blk) : bufH (H.set j c') b = (bufH H b).set j c' := by
  cases b with
  | none => rfl
  | some b => exact AHeap.set_comm _ _ _ (Ne.symm (buf_ne hb hj))
theorem bufOk_set {H : AHeap} {es : Nat} {b : Option Buf} (hb : bufOk H es b) {j : Nat} {c : Blk} (hj : H j = some c) (c' : Blk) : bufOk (H.set j c') es b := by
  cases b with
  | none => trivial
  | some b =>
    refine ⟨?_, hb.2⟩
    rw [AHeap.set_ne _ _ (Ne.symm (buf_ne hb hj))]
    exact hb.1
/-- What a growing slice of ints holds, as a slice that lies in the heap. -/
theorem holds_buf {H h : AHeap} {b : Option Buf} {zs : List Int} (hb : bufOk H 1 b) (hc : bufC b = intCells zs) (hs : Sub (bufH H b) h) : HoldsZ h (bufV 1 b) zs := by
  cases b with
  | none =>
    have : zs = [] := by
      have := congrArg List.length hc
      rw [intCells_length] at this
      exact List.length_eq_zero_iff.1 this.symm
    exact .inl ⟨rfl, this⟩
  | some b =>
    have hc' : b.cells = intCells zs := hc
    refine .inr ⟨b.blk, .grow 1, ?_, ?_⟩
    · show AVal.slice (.own b.blk) 0 (b.cells.length / 1) (.grow 1) = _
      rw [Nat.div_one, hc', intCells_length]
    · rw [← hc']
      exact hs _ _ (AHeap.set_same _ _ _)
/-- The value of a decimal's digits, the last place first, behind zeros. -/
theorem leV_zeros : ∀ (n : Nat) (zs : List Int), leV (List.replicate n 0 ++ zs) = leV zs * 10 ^ n
  | 0, zs => by simp
  | n + 1, zs => by
    rw [List.replicate_succ, List.cons_append, leV_cons, leV_zeros n zs, Int.pow_succ]
    rw [Int.add_zero, Int.mul_comm 10, Int.mul_assoc]
def digs (s : List UInt8) : List Int := s.reverse.map fun b => (dv b : Int)
theorem valL_dv : ∀ (s : List UInt8), valL (s.map fun b => (dv b : Int)) = (natOf s : Int)
  | [] => rfl
  | b :: s => by
    rw [List.map_cons, valL_cons, valL_dv s, natOf_cons, List.length_map]
    push_cast
    rfl
theorem leV_digs (s : List UInt8) : leV (digs s) = (natOf s : Int) := by
  unfold leV digs
  rw [← List.map_reverse, List.reverse_reverse, valL_dv]
theorem digs_digZ {s : List UInt8} (h : s.all dg = true) : digZ (digs s) := by
  intro x hx
  unfold digs at hx
  rw [List.mem_map] at hx
  obtain ⟨b, hb, rfl⟩ := hx
  rw [List.all_eq_true] at h
  have := (dg_iff b).1 (h b (List.mem_reverse.1 hb))
  have e : dv b = b.toNat - 48 := rfl
  omega
end Go.Proofs.YthiiakghjoeikaaGreatDoor

/-
  Decimals as whole numbers: of 62 places.
  Conditions: none.
-/
namespace Go.Proofs.YthiiakghjoeikaaGreatDoor
open Go.AM
open Go.Proofs
open Go.Dec
open Go.Lib (decDigits)
set_option maxRecDepth 100000

/-- A decimal's value, as a whole number of steps of the 62nd place. -/
def magN (d : D) : Nat := natOf d.dig * 10 ^ (62 - d.scale.toNat)
def vI (d : D) : Int := if d.neg = true then -(magN d : Int) else magN d
/-- The decimal of such a number. -/
def ofV (v : Int) : D := canon (decide (v < 0)) v.natAbs 62

theorem canon_as (neg : Bool) (n : Nat) : canon neg n 62 = ofV (if neg = true then -(n : Int) else n) := by
  unfold ofV
  by_cases hn : n = 0
  · subst hn; cases neg <;> rfl
  · cases neg
    · rw [if_neg (by decide), decide_eq_false (by omega), Int.natAbs_natCast]
    · rw [if_pos rfl, decide_eq_true (by omega), Int.natAbs_neg, Int.natAbs_natCast]
theorem val_at {d : D} (h : checkE d = 0) : d = canon d.neg (magN d) 62 := by
  obtain ⟨sd, _, _, _⟩ := Small_of_check h
  have h1 := sd.s0
  have h2 := sd.s1
  have e := canon_mul d.neg (62 - d.scale.toNat) (natOf d.dig) d.scale.toNat
  rw [show d.scale.toNat + (62 - d.scale.toNat) = 62 by omega] at e
  exact (val_canon h).1.trans e.symm
theorem val_ofV {d : D} (h : checkE d = 0) : d = ofV (vI d) := (val_at h).trans (canon_as _ _)
theorem ofV_vI (v : Int) : vI (ofV v) = v := by
  unfold ofV vI magN
  rw [(canon_at _ _ _).1, (natOf_canon _ _ _).2.2]
  by_cases h0 : v.natAbs = 0
  · rw [if_pos h0, if_neg (by decide)]; omega
  · rw [if_neg h0]
    by_cases hv : v < 0
    · rw [decide_eq_true hv, if_pos rfl]; omega
    · rw [decide_eq_false hv, if_neg (by decide)]; omega
theorem zero_iff {d : D} (h : checkE d = 0) : d.dig = [48] ↔ vI d = 0 := by
  have hd := val_ofV h
  constructor
  · intro e
    unfold vI magN
    rw [e]
    split <;> simp [natOf, dv]
  · intro e
    rw [hd, e]
    rfl
theorem other_vI {d : D} (h : checkE d = 0) : checkE (otherD d) = 0 ∧ vI (otherD d) = -vI d := by
  have hm : magN (otherD d) = magN d := rfl
  have hz := zero_iff h
  have hl := (val_canon h).2
  by_cases e : d.dig = [48]
  · have hv := hz.1 e
    have hd : d = zeroD := by rw [val_ofV h, hv]; rfl
    subst hd
    exact ⟨by decide, by decide⟩
  · have hn : (otherD d).neg = !d.neg := by unfold otherD; rw [decide_eq_false e]; simp
    have hm0 : magN d ≠ 0 := by
      intro e0
      have : vI d = 0 := by unfold vI; rw [e0]; split <;> rfl
      exact e (hz.2 this)
    have hc : otherD d = canon (!d.neg) (magN d) 62 := by
      have hd := val_at h
      obtain ⟨x1, x2, x3⟩ := natOf_canon (!d.neg) (magN d) 62
      obtain ⟨y1, y2, y3⟩ := natOf_canon d.neg (magN d) 62
      have e1 : (canon (!d.neg) (magN d) 62).dig = (canon d.neg (magN d) 62).dig := by
        unfold canon; rw [if_neg hm0, if_neg hm0]
      have e2 : (canon (!d.neg) (magN d) 62).scale = (canon d.neg (magN d) 62).scale := by
        unfold canon; rw [if_neg hm0, if_neg hm0]
      have e3 : (canon (!d.neg) (magN d) 62).neg = !d.neg := by rw [x3, if_neg hm0]
      have f1 : otherD d = ⟨!d.neg, d.dig, d.scale⟩ := by unfold otherD; rw [decide_eq_false e]; simp
      have f2 : canon (!d.neg) (magN d) 62 = ⟨(canon (!d.neg) (magN d) 62).neg, (canon (!d.neg) (magN d) 62).dig, (canon (!d.neg) (magN d) 62).scale⟩ := rfl
      rw [f1, f2, e1, e2, e3, ← hd]
    refine ⟨?_, ?_⟩
    · rw [hc]
      refine check_canon _ _ _ ?_
      rw [← hc]
      exact hl
    · unfold vI
      rw [hm, hn]
      cases d.neg <;> simp
theorem add_vI {a b : D} (ca : checkE a = 0) (cb : checkE b = 0) : addE a b = resE (ofV (vI a + vI b)) := by
  obtain ⟨sa, _, _, _⟩ := Small_of_check ca
  obtain ⟨sb, _, _, _⟩ := Small_of_check cb
  rw [add_at ca cb 62 sa.s1 sb.s1]
  have ea : natOf a.dig * 10 ^ (62 - a.scale.toNat) = magN a := rfl
  have eb : natOf b.dig * 10 ^ (62 - b.scale.toNat) = magN b := rfl
  rw [ea, eb]
  unfold vI
  cases a.neg <;> cases b.neg
  · rw [if_pos rfl, canon_as]; congr 2
  · rw [if_neg (by decide)]
    split
    · rw [canon_as]; congr 2; simp; omega
    · rw [canon_as]; congr 2; simp; omega
  · rw [if_neg (by decide)]
    split
    · rw [canon_as]; congr 2; simp; omega
    · rw [canon_as]; congr 2; simp; omega
  · rw [if_pos rfl, canon_as]; congr 2; simp; omega
theorem sub_vI {a b : D} (ca : checkE a = 0) (cb : checkE b = 0) : subE a b = resE (ofV (vI a - vI b)) := by
  obtain ⟨h1, h2⟩ := other_vI cb
  rw [subE, if_pos ⟨ca, cb⟩, add_vI ca h1, h2, ← Int.sub_eq_add_neg]
end Go.Proofs.YthiiakghjoeikaaGreatDoor

/-
  What the statements about sums and products ask, in plain Lean.
  Conditions: none.
-/
namespace Go.Proofs.YthiiakghjoeikaaGreatDoor
open Go.AM
open Go.Proofs
open Go.Dec
open Go.Lib (decDigits)
set_option maxRecDepth 100000

/-- A number with a sign. -/
def sgV (n : Bool) (m : Int) : Int := if n = true then -m else m
theorem sgV_mul (n : Bool) (m p : Int) : sgV n m * p = sgV n (m * p) := by
  unfold sgV
  split
  · rw [Int.neg_mul]
  · rfl
theorem sgV_not (n : Bool) (m : Int) : sgV (!n) m = -sgV n m := by
  unfold sgV
  cases n
  · rfl
  · simp
theorem vI_sg (d : D) : vI d = sgV d.neg (magN d) := rfl
theorem sg_whole {d : D} (cd : checkE d = 0) {S : Nat} (hS : d.scale.toNat ≤ S) (h62 : S ≤ 62) : sgV d.neg ((natOf d.dig * 10 ^ (S - d.scale.toNat) : Nat) : Int) * 10 ^ (62 - S) = vI d := by
  rw [sgV_mul, vI_sg]
  congr 1
  have : magN d = natOf d.dig * 10 ^ (S - d.scale.toNat) * 10 ^ (62 - S) := by
    rw [magN, Nat.mul_assoc, ← Nat.pow_add, show S - d.scale.toNat + (62 - S) = 62 - d.scale.toNat by omega]
  rw [this]
  push_cast
  rfl
theorem canon_sg (n : Bool) (m : Nat) {S : Nat} (hS : S ≤ 62) : canon n m S = ofV (sgV n m * 10 ^ (62 - S)) := by
  have e := canon_mul n (62 - S) m S
  rw [show S + (62 - S) = 62 by omega] at e
  rw [← e, canon_as, sgV_mul]
  congr 1
/-- The sum of two numbers at a common scale, as a decimal. -/
theorem sum_number {a b : D} (ca : checkE a = 0) (cb : checkE b = 0) {S : Nat} (ha : a.scale.toNat ≤ S) (hb : b.scale.toNat ≤ S) (h62 : S ≤ 62) {n : Bool} {m : Nat}
    (h : sgV n m = sgV a.neg ((natOf a.dig * 10 ^ (S - a.scale.toNat) : Nat) : Int) + sgV b.neg ((natOf b.dig * 10 ^ (S - b.scale.toNat) : Nat) : Int)) : canon n m S = ofV (vI a + vI b) := by
  rw [canon_sg n m h62, h, Int.add_mul, sg_whole ca ha h62, sg_whole cb hb h62]
theorem diff_number {a b : D} (ca : checkE a = 0) (cb : checkE b = 0) {S : Nat} (ha : a.scale.toNat ≤ S) (hb : b.scale.toNat ≤ S) (h62 : S ≤ 62) {n : Bool} {m : Nat}
    (h : sgV n m = sgV a.neg ((natOf a.dig * 10 ^ (S - a.scale.toNat) : Nat) : Int) + sgV (!b.neg) ((natOf b.dig * 10 ^ (S - b.scale.toNat) : Nat) : Int)) : canon n m S = ofV (vI a - vI b) := by
  rw [canon_sg n m h62, h, Int.add_mul, sg_whole ca ha h62, sgV_not, Int.neg_mul, sg_whole cb hb h62]
  rfl
theorem other_number {b : D} (cb : checkE b = 0) {S : Nat} (hb : b.scale.toNat ≤ S) (h62 : S ≤ 62) : canon (!b.neg) (natOf b.dig * 10 ^ (S - b.scale.toNat)) S = otherD b := by
  obtain ⟨h1, h2⟩ := other_vI cb
  rw [val_ofV h1, h2, canon_sg _ _ h62, sgV_not, Int.neg_mul, sg_whole cb hb h62]
theorem add_comm_vI {a b : D} (ca : checkE a = 0) (cb : checkE b = 0) : addE b a = addE a b := by
  rw [add_vI ca cb, add_vI cb ca, Int.add_comm]
theorem add_other {a b : D} (ca : checkE a = 0) (cb : checkE b = 0) : addE a (otherD b) = subE a b := by
  obtain ⟨h1, h2⟩ := other_vI cb
  rw [add_vI ca h1, sub_vI ca cb, h2]
  rfl

/-! ### Products -/
theorem mul_number {a b : D} (ca : checkE a = 0) (cb : checkE b = 0) : mulE a b = resE (canon (a.neg != b.neg) (natOf a.dig * natOf b.dig) (a.scale + b.scale).toNat) := by
  obtain ⟨sa, _, _, _⟩ := Small_of_check ca
  obtain ⟨sb, _, _, _⟩ := Small_of_check cb
  have h1 := sa.s0
  have h2 := sb.s0
  rw [mulE, if_pos ⟨ca, cb⟩, normE, show (-(a.scale + b.scale)).toNat = 0 by omega, Nat.pow_zero, Nat.mul_one]
theorem mul_swap {a b : D} (ca : checkE a = 0) (cb : checkE b = 0) : mulE b a = mulE a b := by
  rw [mul_number ca cb, mul_number cb ca, Nat.mul_comm, Int.add_comm b.scale]
  congr 2
  cases a.neg <;> cases b.neg <;> rfl
/-- A product that is not too long has the product's value. -/
theorem mul_vI {a b p : D} (ca : checkE a = 0) (cb : checkE b = 0) (h : mulE a b = (p, 0)) : checkE p = 0 ∧ vI p * 10 ^ 62 = vI a * vI b := by
  rw [mul_number ca cb] at h
  obtain ⟨N, hN⟩ : ∃ N, N = natOf a.dig * natOf b.dig := ⟨_, rfl⟩
  rw [← hN] at h
  obtain ⟨K, hK⟩ : ∃ K, K = (a.scale + b.scale).toNat := ⟨_, rfl⟩
  rw [← hK] at h
  have hl : ¬ 62 < long (canon (a.neg != b.neg) N K) := by
    intro hl
    rw [resE_long hl] at h
    exact absurd (Prod.mk.inj h).2 (by decide)
  rw [resE_ok hl] at h
  have hd := (Prod.mk.inj h).1
  have hc : checkE p = 0 := by rw [← hd]; exact check_canon _ _ _ (by omega)
  refine ⟨hc, ?_⟩
  obtain ⟨sa, _, _, _⟩ := Small_of_check ca
  obtain ⟨sb, _, _, _⟩ := Small_of_check cb
  obtain ⟨sp, _, _, _⟩ := Small_of_check hc
  have a0 := sa.s0
  have a1 := sa.s1
  have b0 := sb.s0
  have b1 := sb.s1
  have p0 := sp.s0
  have p1 := sp.s1
  obtain ⟨q1, q2⟩ := canon_at (a.neg != b.neg) N K
  obtain ⟨_, _, q3⟩ := natOf_canon (a.neg != b.neg) N K
  rw [hd] at q1 q2 q3
  have hm : magN p * 10 ^ 62 = magN a * magN b := by
    have e1 : magN a * magN b = N * 10 ^ (124 - K) := by
      rw [magN, magN, hN, show 124 - K = (62 - a.scale.toNat) + (62 - b.scale.toNat) by omega, Nat.pow_add]
      generalize 10 ^ (62 - a.scale.toNat) = x
      generalize 10 ^ (62 - b.scale.toNat) = y
      generalize natOf a.dig = u
      generalize natOf b.dig = v
      simp only [Nat.mul_comm, Nat.mul_left_comm]
    rw [e1, ← q1, magN, Nat.mul_assoc, Nat.mul_assoc, ← Nat.pow_add, ← Nat.pow_add, show 62 - p.scale.toNat + 62 = K - p.scale.toNat + (124 - K) by omega]
  have hmI : (magN p : Int) * 10 ^ 62 = (magN a : Int) * magN b := by exact_mod_cast hm
  rw [vI_sg, vI_sg, vI_sg, q3]
  by_cases hz : N = 0
  · rw [if_pos hz]
    have : magN p = 0 := by
      have e1 : natOf p.dig * 10 ^ (K - p.scale.toNat) = 0 := by rw [q1, hz]
      have e2 : 0 < 10 ^ (K - p.scale.toNat) := Nat.pow_pos (by omega)
      rcases Nat.mul_eq_zero.1 e1 with e | e
      · rw [magN, e, Nat.zero_mul]
      · omega
    rw [this] at hmI
    rw [this]
    have hmz : (magN a : Int) * magN b = 0 := by rw [← hmI]; simp
    unfold sgV
    cases a.neg <;> cases b.neg <;> simp [Int.neg_mul, Int.mul_neg, hmz] <;> (have := hmz; simpa using this)
  · rw [if_neg hz]
    unfold sgV
    cases a.neg <;> cases b.neg <;> simp only [bne_self_eq_false, Bool.false_eq_true, if_false, if_true, Bool.true_bne, Bool.false_bne, Bool.not_false, Int.neg_mul, Int.mul_neg, Int.neg_neg, hmI]
/-- The product is distributive over the sum, where nothing is too long. -/
theorem mul_add_law {a b c p s l r : D} {f : Int} {t : D} (ca : checkE a = 0) (cb : checkE b = 0) (cc : checkE c = 0) (hp : mulE a b = (p, 0)) (hs : addE b c = (s, 0)) (hl : mulE a s = (l, 0)) (hr : mulE a c = (r, 0)) (ht : addE p r = (t, f)) : f = 0 ∧ t = l := by
  obtain ⟨cp, vp⟩ := mul_vI ca cb hp
  obtain ⟨cr, vr⟩ := mul_vI ca cc hr
  rw [add_vI cb cc] at hs
  have hsl : ¬ 62 < long (ofV (vI b + vI c)) := by
    intro hl
    rw [resE_long hl] at hs
    exact absurd (Prod.mk.inj hs).2 (by decide)
  rw [resE_ok hsl] at hs
  have hsd := (Prod.mk.inj hs).1
  have cs : checkE s = 0 := by rw [← hsd]; exact check_canon _ _ _ (by unfold ofV at hsl; omega)
  have vs : vI s = vI b + vI c := by rw [← hsd, ofV_vI]
  obtain ⟨cl, vl⟩ := mul_vI ca cs hl
  have hv : vI p + vI r = vI l := by
    rw [vs, Int.mul_add, ← vp, ← vr, ← Int.add_mul] at vl
    exact (Int.eq_of_mul_eq_mul_right (by decide) vl).symm
  rw [add_vI cp cr, hv, ← val_ofV cl, resE_ok (by have := (val_canon cl).2; omega)] at ht
  exact ⟨(Prod.mk.inj ht).2.symm, (Prod.mk.inj ht).1.symm⟩
end Go.Proofs.YthiiakghjoeikaaGreatDoor

/-
  The statements' big numbers: whole.
  Conditions: none.
-/
namespace Go.Proofs.YthiiakghjoeikaaGreatDoor
open Go.AM
open Go.Proofs
open Go.Dec
open Go.Lib (decDigits)
set_option maxRecDepth 100000

theorem src_one (w₀ : World) (H : AHeap) (k : Nat) (z : Int) : srcPre w₀ (H.set k ⟨intCells [z], 0⟩) 1 1 (.slice (.own k) 0 1 (.exact 1)) ∧ srcCells w₀ (H.set k ⟨intCells [z], 0⟩) 1 1 (.slice (.own k) 0 1 (.exact 1)) = intCells [z] := by
  have e : cellsAt w₀ (H.set k ⟨intCells [z], 0⟩) (.own k) 0 (1 * 1) = intCells [z] := by
    rw [cellsAt_own (AHeap.set_same _ _ _) 0 1 (by simp [intCells])]
    rfl
  refine ⟨?_, e⟩
  show allLive (cellsAt w₀ (H.set k ⟨intCells [z], 0⟩) (.own k) 0 (1 * 1)) = true
  rw [e]
  rfl
theorem bufV_cells (es : Nat) (b : Option Buf) : (bufV es b).cells = [bufV es b] := by cases b <;> rfl
/-- A struct with a slice in its second cell, and the slice's block. -/
def bufS (H : AHeap) (k : Nat) (n : Bool) (b : Option Buf) : AHeap := bufH (H.set k ⟨[.bool n, bufV 1 b], 0⟩) b
theorem bufS_rd (w₀ : World) {H : AHeap} {k : Nat} {n : Bool} {b : Option Buf} (hb : bufOk (H.set k ⟨[.bool n, bufV 1 b], 0⟩) 1 b) (o : Nat) : rd w₀ (bufS H k n b) (.own k) o = [AVal.bool n, bufV 1 b].getD o .dead := rd_buf w₀ hb (AHeap.set_same _ _ _) o
theorem bufS_rd2 (w₀ : World) {H : AHeap} {k j : Nat} {n : Bool} {b : Option Buf} (hb : bufOk (H.set k ⟨[.bool n, bufV 1 b], 0⟩) 1 b) {c : Blk} (hj : H j = some c) (hne : j ≠ k) (o : Nat) : rd w₀ (bufS H k n b) (.own j) o = c.cells.getD o .dead := rd_buf w₀ hb ((AHeap.set_ne _ _ hne).trans hj) o
theorem bufS_store {H : AHeap} {k : Nat} {n : Bool} {b b' : Option Buf} {h' : AHeap} (hok : bufOk (H.set k ⟨[.bool n, bufV 1 b], 0⟩) 1 b') (hs : Sub (bufH (H.set k ⟨[.bool n, bufV 1 b], 0⟩) b') h') :
    Sub (bufS H k n b') (h'.set k ⟨[.bool n, bufV 1 b'], 0⟩) ∧ bufOk (H.set k ⟨[.bool n, bufV 1 b'], 0⟩) 1 b' := by
  have e1 := bufH_set hok (AHeap.set_same _ _ _) ⟨[.bool n, bufV 1 b'], 0⟩
  have e2 := bufOk_set hok (AHeap.set_same _ _ _) ⟨[.bool n, bufV 1 b'], 0⟩
  rw [AHeap.set_set] at e1 e2
  refine ⟨?_, e2⟩
  unfold bufS
  rw [e1]
  exact Sub.set_both hs _ _
/-- What is left behind where the struct is given back through the block j. -/
theorem bufS_done {h H : AHeap} {k j : Nat} {n : Bool} {b : Option Buf} {c X : Blk} {zs : List Int} (hok : bufOk (H.set k ⟨[.bool n, bufV 1 b], 0⟩) 1 b) (hj : (H.set k ⟨[.bool n, bufV 1 b], 0⟩) j = some c) (hc : bufC b = intCells zs)
    (hs : Sub h ((H.set k ⟨[.bool n, bufV 1 b], 0⟩).set j X)) : HoldsZ ((bufS H k n b).set j X) (bufV 1 b) zs ∧ Sub h ((bufS H k n b).set j X) := by
  have e1 := bufH_set hok hj X
  have e2 := bufOk_set hok hj X
  unfold bufS
  rw [← e1]
  exact ⟨holds_buf e2 hc (Sub.refl _), Sub.trans hs (Sub.buf e2)⟩
theorem bufS_sub {h H : AHeap} {k : Nat} {n : Bool} {b : Option Buf} (hok : bufOk (H.set k ⟨[.bool n, bufV 1 b], 0⟩) 1 b) (hs : Sub h (H.set k ⟨[.bool n, bufV 1 b], 0⟩)) : Sub h (bufS H k n b) := Sub.trans hs (Sub.buf hok)
theorem digs_drop {s : List UInt8} {q : Nat} (hq : q < s.length) : digs (s.drop q) = digs (s.drop (q + 1)) ++ [(dv (s.getD q 0) : Int)] := by
  unfold digs
  rw [List.drop_eq_getElem_cons hq, List.reverse_cons, List.map_append, List.getD, List.getElem?_eq_getElem hq]
  rfl
theorem getD_mem' {s : List UInt8} {q : Nat} (h : q < s.length) : s.getD q 0 ∈ s := by
  rw [List.getD, List.getElem?_eq_getElem h]
  exact List.getElem_mem h
theorem digs_length (s : List UInt8) : (digs s).length = s.length := by simp [digs]
set_option maxHeartbeats 1000000 in
theorem c_whole (w₀ : World) (h : AHeap) (d : D) (cd : checkE d = 0) (S : Int) (h0 : d.scale ≤ S) (h1 : S ≤ 1000) :
    ACall Tryz.prog w₀ 23 [decA d, .int .i64 S] h (fun v h' => (∃ z, v = .agg [.bool d.neg, z] ∧ HoldsZ h' z (List.replicate (S - d.scale).toNat 0 ++ digs d.dig)) ∧ Sub h h') := by
  obtain ⟨sd, dd, _, _⟩ := Small_of_check cd
  have d0 := sd.s0
  have d1 := sd.s1
  have d2 := sd.l
  refine acall_intro (n := 44) (rs := [.cell 4 40]) Tryz.func23 rfl rfl rfl rfl (Nat.le_of_ble_eq_true rfl) ?_
  simp only [initSlots]
  -- region 0  law.go:52
  refine awp_rseq [1, 2, 4] (by rfl) fun K hK => ?_
  refine aOps_box (by rfl) (by rfl) (by rfl) fun k0q0 hk0q0 => ?_
  try have hf_0q0 : h k0q0 = none := by first | assumption | (simp only [AHeap.set_none] at hk0q0; simp only [hk0q0])
  skip
  refine aOps_alloc ze40 (cs := [.bool false, .nilSlice]) (by rfl) fun k0q1 hk0q1 => ?_
  have ne_0q1_0q0 : k0q1 ≠ k0q0 := by simp only [AHeap.set_none] at hk0q1; simp only [hk0q1, ne_eq, not_false_eq_true]
  try have hf_0q1 : h k0q1 = none := by first | assumption | (simp only [AHeap.set_none] at hk0q1; simp only [hk0q1])
  simp (decide := true) only [aOps_nil, ev, putD, Slots.put, Slots.get, Slots.keep, if_true, if_false, AVal.cells, Nat.zero_add, decA]
  repeat (with_reducible refine And.intro ?_ ?_; · first | trivial | omega | (intro hg; simp only [Bool.and_eq_true, Bool.or_eq_true, Bool.not_eq_true', Bool.and_eq_false_iff, Bool.or_eq_false_iff, Bool.not_eq_false', decide_eq_true_eq, decide_eq_false_iff_not, eqNil] at hg; omega) | (simp only [List.length_append, List.length_map, List.length_range, List.length_replicate, List.length_take, List.length_drop, List.length_cons, List.length_nil, List.length_set, List.length_reverse]; omega))
  apply hK; clear hK K
  -- region 1  law.go:53
  refine awp_rseq [1, 2, 4, 5] (by rfl) fun K hK => ?_
  simp (decide := true) only [ev, absV, absS, putD, Slots.put, Slots.get, if_true, if_false, true_and, ↓ap_fieldAddr, pop_fieldAddr, fa27_0, ↓ap_loadL, apL_mk, pLoad_one ag4, ↓ap_build, ↓pop_buildL, bld40_0, evP, List.map_cons, List.map_nil, rd_ne', ne_eq, not_false_eq_true, ne_0q1_0q0.symm, rd_any, List.getD_cons_zero, Nat.zero_add, lv_bool]
  repeat (with_reducible refine And.intro ?_ ?_; · first | trivial | omega | (intro hg; simp only [Bool.and_eq_true, Bool.or_eq_true, Bool.not_eq_true', Bool.and_eq_false_iff, Bool.or_eq_false_iff, Bool.not_eq_false', decide_eq_true_eq, decide_eq_false_iff_not, eqNil] at hg; omega) | (simp only [List.length_append, List.length_map, List.length_range, List.length_replicate, List.length_take, List.length_drop, List.length_cons, List.length_nil, List.length_set, List.length_reverse]; omega))
  refine aOps_alloc ze40 (cs := [.bool false, .nilSlice]) (by rfl) fun k1q3 hk1q3 => ?_
  have ne_1q3_0q0 : k1q3 ≠ k0q0 := by simp only [AHeap.set_none] at hk1q3; simp only [hk1q3, ne_eq, not_false_eq_true]
  have ne_1q3_0q1 : k1q3 ≠ k0q1 := by simp only [AHeap.set_none] at hk1q3; simp only [hk1q3, ne_eq, not_false_eq_true]
  try have hf_1q3 : h k1q3 = none := by first | assumption | (simp only [AHeap.set_none] at hk1q3; simp only [hk1q3])
  have e0 : ((h.set k0q0 ⟨[.bool d.neg, .str d.dig, .int .i64 d.scale], 0⟩).set k0q1 ⟨[.bool false, .nilSlice], 0⟩) k0q0 = some ⟨[.bool d.neg, .str d.dig, .int .i64 d.scale], 0⟩ := by rw [AHeap.set_ne _ _ ne_0q1_0q0.symm, AHeap.set_same]
  refine aOps_store (by rfl) (by rfl) (by repeat (first | exact AHeap.set_same _ _ _ | assumption | refine (AHeap.set_ne _ _ (by first | assumption | exact Ne.symm (by assumption))).trans ?_)) sz40 (by rfl) (by rfl) (by first | exact Nat.le_refl _ | decide | (simp; done) | (simp; omega)) (Nat.zero_le _) (by rfl) ?_
  simp only [AHeap.set_set, AVal.cells]
  simp (decide := true) only [aOps_nil, ev, putD, Slots.put, Slots.get, Slots.keep, if_true, if_false, setAt, List.set_cons_zero, List.set_cons_succ, Nat.zero_add]
  repeat (with_reducible refine And.intro ?_ ?_; · first | trivial | omega | (intro hg; simp only [Bool.and_eq_true, Bool.or_eq_true, Bool.not_eq_true', Bool.and_eq_false_iff, Bool.or_eq_false_iff, Bool.not_eq_false', decide_eq_true_eq, decide_eq_false_iff_not, eqNil] at hg; omega) | (simp only [List.length_append, List.length_map, List.length_range, List.length_replicate, List.length_take, List.length_drop, List.length_cons, List.length_nil, List.length_set, List.length_reverse]; omega))
  apply hK; clear hK K
  refine awp_seq ?_
  -- region 2  law.go:54
  refine awp_rseq [1, 2, 4, 5, 6] (by rfl) fun K hK => ?_
  simp (decide := true) only [aOps_nil, ev, absV, absS, putD, Slots.put, Slots.keep, if_true, if_false, true_and, ↓ap_assign, pop_assign]
  repeat (with_reducible refine And.intro ?_ ?_; · first | trivial | omega | (intro hg; simp only [Bool.and_eq_true, Bool.or_eq_true, Bool.not_eq_true', Bool.and_eq_false_iff, Bool.or_eq_false_iff, Bool.not_eq_false', decide_eq_true_eq, decide_eq_false_iff_not, eqNil] at hg; omega) | (simp only [List.length_append, List.length_map, List.length_range, List.length_replicate, List.length_take, List.length_drop, List.length_cons, List.length_nil, List.length_set, List.length_reverse]; omega))
  apply hK; clear hK K
  refine awp_block ?_
  refine awp_loopG [1, 2, 4, 5, 6] (fun g : Nat × Option Buf => [(1, .int .i64 S), (2, .ptr (.own k0q0) 0), (4, .ptr (.own k0q1) 0), (5, .ptr (.own k1q3) 0), (6, .int .i64 g.1)]) (fun g : Nat × Option Buf => bufS ((h.set k0q0 ⟨[.bool d.neg, .str d.dig, .int .i64 d.scale], 0⟩).set k0q1 ⟨[.bool false, .nilSlice], 0⟩) k1q3 d.neg g.2) (fun g : Nat × Option Buf => (g.1 : Int) ≤ S - d.scale ∧ bufOk (((h.set k0q0 ⟨[.bool d.neg, .str d.dig, .int .i64 d.scale], 0⟩).set k0q1 ⟨[.bool false, .nilSlice], 0⟩).set k1q3 ⟨[.bool d.neg, bufV 1 g.2], 0⟩) 1 g.2 ∧ bufC g.2 = intCells (List.replicate g.1 0)) (fun g : Nat × Option Buf => 2000 - g.1) (0, none) (by rfl) (Sub.refl _) ⟨by omega, trivial, rfl⟩ ?_
  rintro ⟨i, b⟩ ⟨hi, hok, hc⟩
  simp only at hi hok hc ⊢
  have hlb : (bufC b).length ≤ 1000 := by rw [hc, intCells_length, List.length_replicate]; omega
  refine awp_seq ?_
  -- region 3  law.go:54
  refine awp_rseq [1, 2, 4, 5, 6, 16] (by rfl) fun K hK => ?_
  simp (decide := true) only [aOps_nil, ev, putD, Slots.put, Slots.get, Slots.keep, if_true, if_false, true_and, ↓ap_move, pop_move, ↓ap_fieldAddr, pop_fieldAddr, fa27_2, ↓ap_loadL, apL_mk, pLoad_one ag3, ↓ap_binOp, pop_binOp, isNilC_tmp, cond_false, pBinX_int, pI_sub, pI_lss, List.getD_cons_zero, List.getD_cons_succ, Nat.zero_add, lv_int, bufS_rd2 w₀ hok e0 ne_1q3_0q0.symm]
  try simp (disch := omega) only [wrap_i64]
  repeat (with_reducible refine And.intro ?_ ?_; · first | trivial | omega | (intro hg; simp only [Bool.and_eq_true, Bool.or_eq_true, Bool.not_eq_true', Bool.and_eq_false_iff, Bool.or_eq_false_iff, Bool.not_eq_false', decide_eq_true_eq, decide_eq_false_iff_not, eqNil] at hg; omega) | (simp only [List.length_append, List.length_map, List.length_range, List.length_replicate, List.length_take, List.length_drop, List.length_cons, List.length_nil, List.length_set, List.length_reverse]; omega))
  apply hK; clear hK K
  refine awp_cond (b := _) rfl (fun hb1 => ?_) (fun hb1 => ?_)
  · try simp only [decide_eq_true_eq] at hb1
    refine awp_skip ?_
    change Awp _ _ _ _ _ _ _
    refine awp_seq ?_
    refine awp_block ?_
    -- region 5  law.go:55
    refine awp_r [1, 2, 4, 5, 6] (by rfl) ?_
    simp (decide := true) only [ev, putD, Slots.put, Slots.get, if_true, if_false, true_and, ↓ap_fieldAddr, pop_fieldAddr, fa40_1, ↓ap_loadL, apL_mk, pLoad_one ag38, List.getD_cons_zero, List.getD_cons_succ, Nat.zero_add, bufS_rd w₀ hok, bufV_live]
    repeat (with_reducible refine And.intro ?_ ?_; · first | trivial | omega | (intro hg; simp only [Bool.and_eq_true, Bool.or_eq_true, Bool.not_eq_true', Bool.and_eq_false_iff, Bool.or_eq_false_iff, Bool.not_eq_false', decide_eq_true_eq, decide_eq_false_iff_not, eqNil] at hg; omega) | (simp only [List.length_append, List.length_map, List.length_range, List.length_replicate, List.length_take, List.length_drop, List.length_cons, List.length_nil, List.length_set, List.length_reverse]; omega))
    refine aOps_buildSlice (cs := intCells [0]) (by kernel_rfl) fun k5q2 hk5q2 => ?_
    refine aOps_appendBuf (h₀ := ((h.set k0q0 ⟨[.bool d.neg, .str d.dig, .int .i64 d.scale], 0⟩).set k0q1 ⟨[.bool false, .nilSlice], 0⟩).set k1q3 ⟨[.bool d.neg, bufV 1 b], 0⟩) (b := b) (src := intCells [0]) (by rfl) (by rfl) Tryz.underlying38 Tryz.underlying38 (by intro k e; cases e) sz3 by3 ze3 (by rfl) (by decide) (by rfl) hok (Sub.set hk5q2) (by rfl) (by rfl) (src_one w₀ _ _ _).1 (src_one w₀ _ _ _).2 (by rfl) (by rfl) (by rfl) (by omega) (by omega) fun b' h' hok' hc' hs' => ?_
    simp (decide := true) only [ev, putD, Slots.put, Slots.get, if_true, if_false, true_and, ↓ap_fieldAddr, pop_fieldAddr, fa40_1, Nat.zero_add]
    repeat (with_reducible refine And.intro ?_ ?_; · first | trivial | omega | (intro hg; simp only [Bool.and_eq_true, Bool.or_eq_true, Bool.not_eq_true', Bool.and_eq_false_iff, Bool.or_eq_false_iff, Bool.not_eq_false', decide_eq_true_eq, decide_eq_false_iff_not, eqNil] at hg; omega) | (simp only [List.length_append, List.length_map, List.length_range, List.length_replicate, List.length_take, List.length_drop, List.length_cons, List.length_nil, List.length_set, List.length_reverse]; omega))
    refine aOps_store (by rfl) (by rfl) (hs' _ _ (bufH_at hok' (AHeap.set_same _ _ _))) sz38 (bufV_live _ _) (by rw [bufV_cells]; rfl) (by simp) (Nat.zero_le _) (by rw [bufV_cells]; simp [allScal, bufV_scal]) ?_
    rw [bufV_cells]
    simp only [setAt, List.set_cons_succ, List.set_cons_zero]
    simp (decide := true) only [aOps_nil, putD, Slots.keep, if_true, if_false]
    repeat (with_reducible refine And.intro ?_ ?_; · first | trivial | omega | (intro hg; simp only [Bool.and_eq_true, Bool.or_eq_true, Bool.not_eq_true', Bool.and_eq_false_iff, Bool.or_eq_false_iff, Bool.not_eq_false', decide_eq_true_eq, decide_eq_false_iff_not, eqNil] at hg; omega) | (simp only [List.length_append, List.length_map, List.length_range, List.length_replicate, List.length_take, List.length_drop, List.length_cons, List.length_nil, List.length_set, List.length_reverse]; omega))
    change Awp _ _ _ _ _ _ _
    -- region 4  law.go:54
    refine awp_r [1, 2, 4, 5, 6] (by rfl) ?_
    simp (decide := true) only [aOps_nil, ev, absV, absS, putD, Slots.put, Slots.get, Slots.keep, if_true, if_false, true_and, ↓ap_move, pop_move, ↓ap_binOp, pop_binOp, isNilC_int, cond_false, pBinX_int, pI_add, ↓ap_assign, pop_assign]
    try simp (disch := omega) only [wrap_i64]
    repeat (with_reducible refine And.intro ?_ ?_; · first | trivial | omega | (intro hg; simp only [Bool.and_eq_true, Bool.or_eq_true, Bool.not_eq_true', Bool.and_eq_false_iff, Bool.or_eq_false_iff, Bool.not_eq_false', decide_eq_true_eq, decide_eq_false_iff_not, eqNil] at hg; omega) | (simp only [List.length_append, List.length_map, List.length_range, List.length_replicate, List.length_take, List.length_drop, List.length_cons, List.length_nil, List.length_set, List.length_reverse]; omega))
    try simp only [thenA_normal]
    refine ⟨(i + 1, b'), ?_, (bufS_store hok' hs').1, ⟨by simp only; omega, (bufS_store hok' hs').2, ?_⟩, by simp only; omega⟩
    · rfl
    · simp only
      rw [hc', hc, ← intCells_append, List.replicate_succ']
  · try simp only [decide_eq_false_iff_not] at hb1
    have hi' : i = (S - d.scale).toNat := by omega
    rw [hi'] at hc
    refine awp_exit ?_
    change Awp _ _ _ _ _ _ _
    refine awp_seq ?_
    -- region 6  law.go:57
    refine awp_rseq [2, 4, 5, 7] (by rfl) fun K hK => ?_
    simp (decide := true) only [aOps_nil, ev, absV, absS, putD, Slots.put, Slots.get, Slots.keep, if_true, if_false, true_and, ↓ap_fieldAddr, pop_fieldAddr, fa27_1, ↓ap_loadL, apL_mk, pLoad_one ag9, ↓ap_len, pop_len, pLen_str Tryz.underlying9, ↓ap_binOp, pop_binOp, isNilC_int, cond_false, pBinX_int, pI_sub, ↓ap_assign, pop_assign, List.getD_cons_zero, List.getD_cons_succ, Nat.zero_add, lv_str, bufS_rd2 w₀ hok e0 ne_1q3_0q0.symm]
    try simp (disch := omega) only [wrap_i64]
    repeat (with_reducible refine And.intro ?_ ?_; · first | trivial | omega | (intro hg; simp only [Bool.and_eq_true, Bool.or_eq_true, Bool.not_eq_true', Bool.and_eq_false_iff, Bool.or_eq_false_iff, Bool.not_eq_false', decide_eq_true_eq, decide_eq_false_iff_not, eqNil] at hg; omega) | (simp only [List.length_append, List.length_map, List.length_range, List.length_replicate, List.length_take, List.length_drop, List.length_cons, List.length_nil, List.length_set, List.length_reverse]; omega))
    apply hK; clear hK K
    refine awp_block ?_
    refine awp_loopG [2, 4, 5, 7] (fun g : Nat × Option Buf => [(2, .ptr (.own k0q0) 0), (4, .ptr (.own k0q1) 0), (5, .ptr (.own k1q3) 0), (7, .int .i64 ((g.1 : Int) - 1))]) (fun g : Nat × Option Buf => bufS ((h.set k0q0 ⟨[.bool d.neg, .str d.dig, .int .i64 d.scale], 0⟩).set k0q1 ⟨[.bool false, .nilSlice], 0⟩) k1q3 d.neg g.2) (fun g : Nat × Option Buf => g.1 ≤ d.dig.length ∧ bufOk (((h.set k0q0 ⟨[.bool d.neg, .str d.dig, .int .i64 d.scale], 0⟩).set k0q1 ⟨[.bool false, .nilSlice], 0⟩).set k1q3 ⟨[.bool d.neg, bufV 1 g.2], 0⟩) 1 g.2 ∧ bufC g.2 = intCells (List.replicate (S - d.scale).toNat 0 ++ digs (d.dig.drop g.1))) (fun g : Nat × Option Buf => g.1) (d.dig.length, b) (by rfl) (Sub.refl _) ⟨Nat.le_refl _, hok, by simp only; rw [hc, List.drop_length]; simp [digs]⟩ ?_
    clear hc hok hlb
    rintro ⟨q, b⟩ ⟨hq, hok, hc⟩
    simp only at hq hok hc ⊢
    have hlb : (bufC b).length ≤ 2000 := by rw [hc, intCells_length, List.length_append, List.length_replicate, digs_length, List.length_drop]; omega
    refine awp_seq ?_
    -- region 7  law.go:57
    refine awp_rseq [2, 4, 5, 7, 29] (by rfl) fun K hK => ?_
    simp (decide := true) only [aOps_nil, ev, absV, absS, putD, Slots.put, Slots.get, Slots.keep, if_true, if_false, true_and, ↓ap_move, pop_move, ↓ap_binOp, pop_binOp, isNilC_int, cond_false, pBinX_int, pI_geq]
    repeat (with_reducible refine And.intro ?_ ?_; · first | trivial | omega | (intro hg; simp only [Bool.and_eq_true, Bool.or_eq_true, Bool.not_eq_true', Bool.and_eq_false_iff, Bool.or_eq_false_iff, Bool.not_eq_false', decide_eq_true_eq, decide_eq_false_iff_not, eqNil] at hg; omega) | (simp only [List.length_append, List.length_map, List.length_range, List.length_replicate, List.length_take, List.length_drop, List.length_cons, List.length_nil, List.length_set, List.length_reverse]; omega))
    apply hK; clear hK K
    refine awp_cond (b := _) rfl (fun hb2 => ?_) (fun hb2 => ?_)
    · try simp only [decide_eq_true_eq] at hb2
      obtain ⟨q, rfl⟩ : ∃ r, q = r + 1 := ⟨q - 1, by omega⟩
      have hq' : ((q + 1 : Nat) : Int) - 1 = q := by omega
      rw [hq']
      have hbd := (dg_iff _).1 (List.all_eq_true.1 dd _ (getD_mem' (s := d.dig) (q := q) (by omega)))
      have edv : (dv (d.dig.getD q 0) : Int) = (d.dig.getD q 0).toNat - 48 := by
        have : dv (d.dig.getD q 0) = (d.dig.getD q 0).toNat - 48 := rfl
        omega
      have ew8 : IntKind.u8.wrap ((d.dig.getD q 0).toNat - 48) = (dv (d.dig.getD q 0) : Int) := by rw [wrap_u8 (by omega) (by omega), edv]
      have ew : IntKind.i64.wrap (dv (d.dig.getD q 0) : Int) = dv (d.dig.getD q 0) := wrap_i64 (by omega) (by omega)
      refine awp_skip ?_
      change Awp _ _ _ _ _ _ _
      refine awp_seq ?_
      refine awp_block ?_
      -- region 9  law.go:58
      refine awp_draw_F 9 [] mixed (by kernel_rfl) (by rfl) ?_
      simp only [List.take_succ_cons, List.take_zero, List.drop_succ_cons, List.drop_zero]
      simp (decide := true) only [ev, absV, absS, putD, Slots.put, Slots.get, if_true, if_false, true_and, ↓fp_fieldAddr, pop_fieldAddr, fa40_1, ↓fp_load, pop_load, pLoad_one ag38, fa27_1, pLoad_one ag9, ↓fp_move, pop_move, ↓fp_index, pop_index, pIndex_str Tryz.underlying9, ↓fp_binOp, pop_binOp, isNilC_int, cond_false, pBinX_int, pI_sub, ↓fp_convert _ _ _ (es_int Tryz.underlying5 Tryz.underlying3), pop_convert, pConv_int Tryz.underlying5 Tryz.underlying3, List.getD_cons_zero, List.getD_cons_succ, Nat.zero_add, lv_str, bufS_rd2 w₀ hok e0 ne_1q3_0q0.symm, bufS_rd w₀ hok, bufV_live, Int.toNat_natCast, ew8, ew]
      try simp (disch := omega) only [wrap_i64, wrap_u8]
      repeat (with_reducible refine And.intro ?_ ?_; · first | trivial | omega | (intro hg; simp only [Bool.and_eq_true, Bool.or_eq_true, Bool.not_eq_true', Bool.and_eq_false_iff, Bool.or_eq_false_iff, Bool.not_eq_false', decide_eq_true_eq, decide_eq_false_iff_not, eqNil] at hg; omega) | (simp only [List.length_append, List.length_map, List.length_range, List.length_replicate, List.length_take, List.length_drop, List.length_cons, List.length_nil, List.length_set, List.length_reverse]; omega))
      refine fOps_lay (by rfl) ?_
      refine aOps_buildSlice (cs := intCells [(dv (d.dig.getD q 0) : Int)]) (by kernel_rfl) fun k9q8 hk9q8 => ?_
      rw [aOps_nil]
      repeat (with_reducible refine And.intro ?_ ?_; · first | trivial | omega | (intro hg; simp only [Bool.and_eq_true, Bool.or_eq_true, Bool.not_eq_true', Bool.and_eq_false_iff, Bool.or_eq_false_iff, Bool.not_eq_false', decide_eq_true_eq, decide_eq_false_iff_not, eqNil] at hg; omega) | (simp only [List.length_append, List.length_map, List.length_range, List.length_replicate, List.length_take, List.length_drop, List.length_cons, List.length_nil, List.length_set, List.length_reverse]; omega))
      try simp only [fOps_nil]
      refine aOps_appendBuf (h₀ := ((h.set k0q0 ⟨[.bool d.neg, .str d.dig, .int .i64 d.scale], 0⟩).set k0q1 ⟨[.bool false, .nilSlice], 0⟩).set k1q3 ⟨[.bool d.neg, bufV 1 b], 0⟩) (b := b) (src := intCells [(dv (d.dig.getD q 0) : Int)]) (by rfl) (by rfl) Tryz.underlying38 Tryz.underlying38 (by intro k e; cases e) sz3 by3 ze3 (by rfl) (by decide) (by rfl) hok (Sub.set hk9q8) (by rfl) (by rfl) (src_one w₀ _ _ _).1 (src_one w₀ _ _ _).2 (by rfl) (by rfl) (by rfl) (by omega) (by omega) fun b' h' hok' hc' hs' => ?_
      simp (decide := true) only [ev, putD, Slots.put, Slots.get, if_true, if_false, true_and, ↓ap_fieldAddr, pop_fieldAddr, fa40_1, Nat.zero_add]
      repeat (with_reducible refine And.intro ?_ ?_; · first | trivial | omega | (intro hg; simp only [Bool.and_eq_true, Bool.or_eq_true, Bool.not_eq_true', Bool.and_eq_false_iff, Bool.or_eq_false_iff, Bool.not_eq_false', decide_eq_true_eq, decide_eq_false_iff_not, eqNil] at hg; omega) | (simp only [List.length_append, List.length_map, List.length_range, List.length_replicate, List.length_take, List.length_drop, List.length_cons, List.length_nil, List.length_set, List.length_reverse]; omega))
      refine aOps_store (by rfl) (by rfl) (hs' _ _ (bufH_at hok' (AHeap.set_same _ _ _))) sz38 (bufV_live _ _) (by rw [bufV_cells]; rfl) (by simp) (Nat.zero_le _) (by rw [bufV_cells]; simp [allScal, bufV_scal]) ?_
      rw [bufV_cells]
      simp only [setAt, List.set_cons_succ, List.set_cons_zero]
      simp (decide := true) only [aOps_nil, putD]
      repeat (with_reducible refine And.intro ?_ ?_; · first | trivial | omega | (intro hg; simp only [Bool.and_eq_true, Bool.or_eq_true, Bool.not_eq_true', Bool.and_eq_false_iff, Bool.or_eq_false_iff, Bool.not_eq_false', decide_eq_true_eq, decide_eq_false_iff_not, eqNil] at hg; omega) | (simp only [List.length_append, List.length_map, List.length_range, List.length_replicate, List.length_take, List.length_drop, List.length_cons, List.length_nil, List.length_set, List.length_reverse]; omega))
      change Awp _ _ _ _ _ _ _
      -- region 8  law.go:57
      refine awp_r [2, 4, 5, 7] (by rfl) ?_
      simp (decide := true) only [aOps_nil, ev, absV, absS, putD, Slots.put, Slots.get, Slots.keep, if_true, if_false, true_and, ↓ap_move, pop_move, ↓ap_binOp, pop_binOp, isNilC_int, cond_false, pBinX_int, pI_sub, ↓ap_assign, pop_assign]
      try simp (disch := omega) only [wrap_i64]
      repeat (with_reducible refine And.intro ?_ ?_; · first | trivial | omega | (intro hg; simp only [Bool.and_eq_true, Bool.or_eq_true, Bool.not_eq_true', Bool.and_eq_false_iff, Bool.or_eq_false_iff, Bool.not_eq_false', decide_eq_true_eq, decide_eq_false_iff_not, eqNil] at hg; omega) | (simp only [List.length_append, List.length_map, List.length_range, List.length_replicate, List.length_take, List.length_drop, List.length_cons, List.length_nil, List.length_set, List.length_reverse]; omega))
      try simp only [thenA_normal]
      refine ⟨(q, b'), ?_, (bufS_store hok' hs').1, ⟨by simp only; omega, (bufS_store hok' hs').2, ?_⟩, by simp only; omega⟩
      · rfl
      · simp only
        rw [hc', hc, ← intCells_append, digs_drop (q := q) (by omega), List.append_assoc]
    · try simp only [decide_eq_false_iff_not] at hb2
      have hq0 : q = 0 := by omega
      rw [hq0, List.drop_zero] at hc
      refine awp_exit ?_
      change Awp _ _ _ _ _ _ _
      -- region 10  law.go:60
      refine awp_rseq [4] (by rfl) fun K hK => ?_
      simp (decide := true) only [ev, putD, Slots.put, Slots.get, if_true, if_false, true_and, ↓ap_loadL, apL_mk, pLoad_agg ag40 sz40, cellsAt, List.getD_cons_zero, List.getD_cons_succ, Nat.zero_add, lv_bool, allLive, Bool.and_true, bufS_rd w₀ hok, bufV_live]
      repeat (with_reducible refine And.intro ?_ ?_; · first | trivial | omega | (intro hg; simp only [Bool.and_eq_true, Bool.or_eq_true, Bool.not_eq_true', Bool.and_eq_false_iff, Bool.or_eq_false_iff, Bool.not_eq_false', decide_eq_true_eq, decide_eq_false_iff_not, eqNil] at hg; omega) | (simp only [List.length_append, List.length_map, List.length_range, List.length_replicate, List.length_take, List.length_drop, List.length_cons, List.length_nil, List.length_set, List.length_reverse]; omega))
      refine aOps_store (v := .agg [.bool d.neg, bufV 1 b]) (by rfl) (by rfl) (bufH_at hok ((AHeap.set_ne _ _ ne_1q3_0q1.symm).trans (AHeap.set_same _ _ _))) sz40 (by rfl) (by rfl) (Nat.le_refl _) (Nat.zero_le _) (by cases b <;> rfl) ?_
      simp only [setAt, AVal.cells, List.length_nil, List.set_cons_zero, List.set_cons_succ, Nat.zero_add]
      simp (decide := true) only [aOps_nil, putD, Slots.keep, if_true, if_false]
      repeat (with_reducible refine And.intro ?_ ?_; · first | trivial | omega | (intro hg; simp only [Bool.and_eq_true, Bool.or_eq_true, Bool.not_eq_true', Bool.and_eq_false_iff, Bool.or_eq_false_iff, Bool.not_eq_false', decide_eq_true_eq, decide_eq_false_iff_not, eqNil] at hg; omega) | (simp only [List.length_append, List.length_map, List.length_range, List.length_replicate, List.length_take, List.length_drop, List.length_cons, List.length_nil, List.length_set, List.length_reverse]; omega))
      apply hK; clear hK K
      refine awp_ret ?_
      try simp only [thenA_ret, inBlockA_ret]
      refine retA_retE (?_) ?_
      · simp (decide := true) only [resPre, resV_cell, Slots.get, if_true, and_true, resV_cell, pLoad_agg ag40 sz40, rd_set, cellsAt, List.getD_cons_zero, List.getD_cons_succ, Nat.zero_add, lv_bool, allLive, Bool.and_true, cellsAt, List.getD_cons_zero, List.getD_cons_succ, Nat.zero_add, lv_bool, allLive, Bool.and_true, bufV_live]
      
      simp (decide := true) only [Slots.get, if_true, resOfG_one, resV_cell, pLoad_agg ag40 sz40, rd_set, cellsAt, List.getD_cons_zero, List.getD_cons_succ, Nat.zero_add, lv_bool, allLive, Bool.and_true, cellsAt, List.getD_cons_zero, List.getD_cons_succ, Nat.zero_add, lv_bool, allLive, Bool.and_true, bufV_live]
      obtain ⟨q1, q2⟩ := bufS_done (h := h) (X := ⟨[.bool d.neg, bufV 1 b], 0⟩) hok ((AHeap.set_ne _ _ ne_1q3_0q1.symm).trans (AHeap.set_same _ _ _)) hc (by repeat (first | exact Sub.refl _ | refine Sub.trans_set ?_ (by assumption)))
      exact ⟨_, Sub.refl _, ⟨_, rfl, q1⟩, q2⟩
end Go.Proofs.YthiiakghjoeikaaGreatDoor

/-
  The statements' big numbers: settled.
  Conditions: none.
-/
namespace Go.Proofs.YthiiakghjoeikaaGreatDoor
open Go.AM
open Go.Proofs
open Go.Dec
open Go.Lib (decDigits)
set_option maxRecDepth 100000

theorem leV_take (zs : List Int) (i : Nat) : leV (zs.take (i + 1)) = leV (zs.take i) + zs.getD i 0 * 10 ^ i := by
  by_cases hi : i < zs.length
  · have e : zs.take (i + 1) = zs.take i ++ [zs.getD i 0] := by
      rw [List.take_add_one, List.getElem?_eq_getElem hi, List.getD, List.getElem?_eq_getElem hi]
      rfl
    rw [e, leV_snoc, List.length_take, Nat.min_eq_left (by omega)]
    omega
  · rw [List.take_of_length_le (by omega), List.take_of_length_le (by omega), List.getD, List.getElem?_eq_none (by omega)]
    simp
/-- What stands in the rows: no number is great. -/
def smallZ (B : Int) (zs : List Int) : Prop := ∀ i : Nat, -B ≤ zs.getD i 0 ∧ zs.getD i 0 ≤ B
theorem settle_step {zs o : List Int} {c c' m n0 : Int} (h : leV (zs.take o.length) = leV o + c * 10 ^ o.length) (e0 : n0 = zs.getD o.length 0 + c) (e : n0 = 10 * c' + m) : leV (zs.take (o.length + 1)) = leV (o ++ [m]) + c' * 10 ^ (o.length + 1) := by
  rw [leV_take, h, leV_snoc, Int.pow_succ]
  have e1 : zs.getD o.length 0 = 10 * c' + m - c := by omega
  rw [e1, Int.sub_mul, Int.add_mul]
  have : 10 * c' * 10 ^ o.length = c' * (10 ^ o.length * 10) := by rw [Int.mul_comm 10 c', Int.mul_assoc, Int.mul_comm 10]
  omega
theorem settle_end {zs o : List Int} {c : Int} (ho : digZ o) (h : leV zs = leV o + c * 10 ^ o.length) (h0 : 0 ≤ leV zs) (hc : ¬ 0 < c) : c = 0 := by
  obtain ⟨b1, b2⟩ := leV_bound o ho
  by_cases e : c = 0
  · exact e
  · have hp : (0 : Int) < 10 ^ o.length := Int.pow_pos (by omega)
    have : c * 10 ^ o.length ≤ (-1) * 10 ^ o.length := Int.mul_le_mul_of_nonneg_right (by omega) (by omega)
    omega
theorem settle_more {zs o : List Int} {c : Int} {L : Nat} (ho : digZ o) (h : leV zs = leV o + c * 10 ^ o.length) (hL : leV zs < 10 ^ L) (hc : 0 < c) : o.length < L := by
  obtain ⟨b1, b2⟩ := leV_bound o ho
  have hp : (0 : Int) < 10 ^ o.length := Int.pow_pos (by omega)
  have h1 : 1 * 10 ^ o.length ≤ c * 10 ^ o.length := Int.mul_le_mul_of_nonneg_right (by omega) (by omega)
  by_cases e : o.length < L
  · exact e
  · have h2 : (10 : Nat) ^ L ≤ 10 ^ o.length := Nat.pow_le_pow_right (by omega) (by omega)
    have : (10 : Int) ^ L ≤ 10 ^ o.length := by exact_mod_cast h2
    omega
theorem digZ.snoc {o : List Int} (h : digZ o) {m : Int} (h0 : 0 ≤ m) (h1 : m ≤ 9) : digZ (o ++ [m]) := by
  intro x hx
  rw [List.mem_append, List.mem_singleton] at hx
  rcases hx with hx | rfl
  · exact h x hx
  · exact ⟨h0, h1⟩

set_option maxHeartbeats 2000000 in
theorem c_settled (w₀ : World) (h : AHeap) (neg : Bool) (z : AVal) (zs : List Int) (hz : HoldsZ h z zs) (B : Int) (hB0 : 20 ≤ B) (hB : B ≤ 1000000000) (hs : smallZ B zs) (L : Nat) (hL : zs.length ≤ L) (hL1 : L ≤ 100000) (hv : leV zs < 10 ^ L) (h0 : 0 ≤ leV zs) :
    ACall Tryz.prog w₀ 49 [.agg [.bool neg, z]] h (fun v h' => (∃ z' o, v = .agg [.bool neg, z'] ∧ HoldsZ h' z' o ∧ digZ o ∧ leV o = leV zs ∧ o.length ≤ L) ∧ Sub h h') := by
  have hlz := hz.live
  refine acall_intro (n := 44) (rs := [.cell 2 40]) Tryz.func49 rfl rfl rfl rfl (Nat.le_of_ble_eq_true rfl) ?_
  simp only [initSlots]
  -- region 0  law.go:82
  refine awp_rseq [1, 2] (by rfl) fun K hK => ?_
  refine aOps_box (by rfl) (by rfl) (by rfl) fun k0q0 hk0q0 => ?_
  try have hf_0q0 : h k0q0 = none := by first | assumption | (simp only [AHeap.set_none] at hk0q0; simp only [hk0q0])
  skip
  refine aOps_alloc ze40 (cs := [.bool false, .nilSlice]) (by rfl) fun k0q1 hk0q1 => ?_
  have ne_0q1_0q0 : k0q1 ≠ k0q0 := by simp only [AHeap.set_none] at hk0q1; simp only [hk0q1, ne_eq, not_false_eq_true]
  try have hf_0q1 : h k0q1 = none := by first | assumption | (simp only [AHeap.set_none] at hk0q1; simp only [hk0q1])
  simp (decide := true) only [aOps_nil, ev, putD, Slots.put, Slots.get, Slots.keep, if_true, if_false, AVal.cells]
  repeat (with_reducible refine And.intro ?_ ?_; · first | trivial | omega | (intro hg; simp only [Bool.and_eq_true, Bool.or_eq_true, Bool.not_eq_true', Bool.and_eq_false_iff, Bool.or_eq_false_iff, Bool.not_eq_false', decide_eq_true_eq, decide_eq_false_iff_not, eqNil] at hg; omega) | (simp only [List.length_append, List.length_map, List.length_range, List.length_replicate, List.length_take, List.length_drop, List.length_cons, List.length_nil, List.length_set, List.length_reverse]; omega))
  apply hK; clear hK K
  -- region 1  law.go:83
  refine awp_rseq [1, 2, 3] (by rfl) fun K hK => ?_
  simp (decide := true) only [ev, absV, absS, putD, Slots.put, Slots.get, if_true, if_false, true_and, ↓ap_fieldAddr, pop_fieldAddr, fa40_0, ↓ap_loadL, apL_mk, pLoad_one ag4, ↓ap_build, ↓pop_buildL, bld40_0, evP, List.map_cons, List.map_nil, rd_ne', ne_eq, not_false_eq_true, ne_0q1_0q0.symm, rd_any, List.getD_cons_zero, Nat.zero_add, lv_bool]
  repeat (with_reducible refine And.intro ?_ ?_; · first | trivial | omega | (intro hg; simp only [Bool.and_eq_true, Bool.or_eq_true, Bool.not_eq_true', Bool.and_eq_false_iff, Bool.or_eq_false_iff, Bool.not_eq_false', decide_eq_true_eq, decide_eq_false_iff_not, eqNil] at hg; omega) | (simp only [List.length_append, List.length_map, List.length_range, List.length_replicate, List.length_take, List.length_drop, List.length_cons, List.length_nil, List.length_set, List.length_reverse]; omega))
  refine aOps_alloc ze40 (cs := [.bool false, .nilSlice]) (by rfl) fun k1q3 hk1q3 => ?_
  have ne_1q3_0q0 : k1q3 ≠ k0q0 := by simp only [AHeap.set_none] at hk1q3; simp only [hk1q3, ne_eq, not_false_eq_true]
  have ne_1q3_0q1 : k1q3 ≠ k0q1 := by simp only [AHeap.set_none] at hk1q3; simp only [hk1q3, ne_eq, not_false_eq_true]
  try have hf_1q3 : h k1q3 = none := by first | assumption | (simp only [AHeap.set_none] at hk1q3; simp only [hk1q3])
  have e0 : ((h.set k0q0 ⟨[.bool neg, z], 0⟩).set k0q1 ⟨[.bool false, .nilSlice], 0⟩) k0q0 = some ⟨[.bool neg, z], 0⟩ := by rw [AHeap.set_ne _ _ ne_0q1_0q0.symm, AHeap.set_same]
  refine aOps_store (by rfl) (by rfl) (by repeat (first | exact AHeap.set_same _ _ _ | assumption | refine (AHeap.set_ne _ _ (by first | assumption | exact Ne.symm (by assumption))).trans ?_)) sz40 (by rfl) (by rfl) (by first | exact Nat.le_refl _ | decide | (simp; done) | (simp; omega)) (Nat.zero_le _) (by rfl) ?_
  simp only [AHeap.set_set, AVal.cells]
  simp (decide := true) only [aOps_nil, ev, putD, Slots.put, Slots.get, Slots.keep, if_true, if_false, setAt, List.set_cons_zero, List.set_cons_succ, Nat.zero_add]
  repeat (with_reducible refine And.intro ?_ ?_; · first | trivial | omega | (intro hg; simp only [Bool.and_eq_true, Bool.or_eq_true, Bool.not_eq_true', Bool.and_eq_false_iff, Bool.or_eq_false_iff, Bool.not_eq_false', decide_eq_true_eq, decide_eq_false_iff_not, eqNil] at hg; omega) | (simp only [List.length_append, List.length_map, List.length_range, List.length_replicate, List.length_take, List.length_drop, List.length_cons, List.length_nil, List.length_set, List.length_reverse]; omega))
  apply hK; clear hK K
  -- region 2  law.go:84
  refine awp_rseq [1, 2, 3, 4] (by rfl) fun K hK => ?_
  simp (decide := true) only [aOps_nil, ev, absV, absS, putD, Slots.put, Slots.keep, if_true, if_false, true_and, ↓ap_assign, pop_assign]
  repeat (with_reducible refine And.intro ?_ ?_; · first | trivial | omega | (intro hg; simp only [Bool.and_eq_true, Bool.or_eq_true, Bool.not_eq_true', Bool.and_eq_false_iff, Bool.or_eq_false_iff, Bool.not_eq_false', decide_eq_true_eq, decide_eq_false_iff_not, eqNil] at hg; omega) | (simp only [List.length_append, List.length_map, List.length_range, List.length_replicate, List.length_take, List.length_drop, List.length_cons, List.length_nil, List.length_set, List.length_reverse]; omega))
  apply hK; clear hK K
  refine awp_seq ?_
  -- region 3  law.go:85
  refine awp_rseq [1, 2, 3, 4, 5] (by rfl) fun K hK => ?_
  simp (decide := true) only [aOps_nil, ev, absV, absS, putD, Slots.put, Slots.keep, if_true, if_false, true_and, ↓ap_assign, pop_assign]
  repeat (with_reducible refine And.intro ?_ ?_; · first | trivial | omega | (intro hg; simp only [Bool.and_eq_true, Bool.or_eq_true, Bool.not_eq_true', Bool.and_eq_false_iff, Bool.or_eq_false_iff, Bool.not_eq_false', decide_eq_true_eq, decide_eq_false_iff_not, eqNil] at hg; omega) | (simp only [List.length_append, List.length_map, List.length_range, List.length_replicate, List.length_take, List.length_drop, List.length_cons, List.length_nil, List.length_set, List.length_reverse]; omega))
  apply hK; clear hK K
  refine awp_block ?_
  refine awp_loopG [1, 2, 3, 4, 5] (fun g : Int × List Int × Option Buf => [(1, .ptr (.own k0q0) 0), (2, .ptr (.own k0q1) 0), (3, .ptr (.own k1q3) 0), (4, .int .i64 g.1), (5, .int .i64 g.2.1.length)]) (fun g : Int × List Int × Option Buf => bufS ((h.set k0q0 ⟨[.bool neg, z], 0⟩).set k0q1 ⟨[.bool false, .nilSlice], 0⟩) k1q3 neg g.2.2) (fun g : Int × List Int × Option Buf => (-B ≤ g.1 ∧ g.1 ≤ B) ∧ digZ g.2.1 ∧ g.2.1.length ≤ L ∧ leV (zs.take g.2.1.length) = leV g.2.1 + g.1 * 10 ^ g.2.1.length ∧ bufOk (((h.set k0q0 ⟨[.bool neg, z], 0⟩).set k0q1 ⟨[.bool false, .nilSlice], 0⟩).set k1q3 ⟨[.bool neg, bufV 1 g.2.2], 0⟩) 1 g.2.2 ∧ bufC g.2.2 = intCells g.2.1) (fun g : Int × List Int × Option Buf => (zs.length - g.2.1.length) * (2 * B + 2).toNat + (g.1 + B).toNat) (0, [], none) (by rfl) (Sub.refl _) ⟨⟨by simp only; omega, by simp only; omega⟩, by simp [digZ], by simp, by simp, trivial, rfl⟩ ?_
  rintro ⟨c, o, b⟩ ⟨hcb, ho, hol, hv', hok, hc⟩
  simp only at hcb ho hol hv' hok hc ⊢
  have hlb : (bufC b).length ≤ 100000 := by rw [hc, intCells_length]; omega
  have hmz : HoldsZ (bufS ((h.set k0q0 ⟨[.bool neg, z], 0⟩).set k0q1 ⟨[.bool false, .nilSlice], 0⟩) k1q3 neg b) z zs := hz.sub (bufS_sub hok (by repeat (first | exact Sub.refl _ | refine Sub.trans_set ?_ (by assumption))))
  refine awp_seq ?_
  -- region 4  law.go:85
  refine awp_rseq [1, 2, 3, 4, 5, 18] (by rfl) fun K hK => ?_
  simp (decide := true) only [aOps_nil, ev, absV, absS, putD, Slots.put, Slots.get, Slots.keep, if_true, if_false, true_and, ↓ap_move, pop_move, ↓ap_fieldAddr, pop_fieldAddr, fa40_1, ↓ap_loadL, apL_mk, pLoad_one ag38, ↓ap_len, pop_len, ↓ap_binOp, pop_binOp, isNilC_tmp, cond_false, pBinX_int, pI_lss, ↓ag_move, agP, agQ_some, nthDst, gKnown_bool, guardB_bool_false, implies_true, ↓ag_binOp, isNilC_int, cv_binl, cp_binl, pI_gtr, ↓ap_pick, pop_pick, pPick_bool, pickV_cond_r, pickV_or, List.getD_cons_zero, List.getD_cons_succ, Nat.zero_add, hlz, hz.len Tryz.underlying38, bufS_rd2 w₀ hok e0 ne_1q3_0q0.symm]
  repeat (with_reducible refine And.intro ?_ ?_; · first | trivial | omega | (intro hg; simp only [Bool.and_eq_true, Bool.or_eq_true, Bool.not_eq_true', Bool.and_eq_false_iff, Bool.or_eq_false_iff, Bool.not_eq_false', decide_eq_true_eq, decide_eq_false_iff_not, eqNil] at hg; omega) | (simp only [List.length_append, List.length_map, List.length_range, List.length_replicate, List.length_take, List.length_drop, List.length_cons, List.length_nil, List.length_set, List.length_reverse]; omega))
  apply hK; clear hK K
  refine awp_cond (b := _) rfl (fun hb1 => ?_) (fun hb1 => ?_)
  · try simp only [decide_eq_true_eq, Bool.or_eq_true] at hb1
    have hoL : o.length < L := by
      by_cases e : o.length < zs.length
      · omega
      · rw [List.take_of_length_le (by omega)] at hv'
        exact settle_more ho hv' hv (by omega)
    have hsm := hs o.length
    refine awp_skip ?_
    change Awp _ _ _ _ _ _ _
    refine awp_seq ?_
    refine awp_block ?_
    -- region 6  law.go:86
    refine awp_rseq [1, 2, 3, 5, 6] (by rfl) fun K hK => ?_
    simp (decide := true) only [ev, putD, Slots.put, Slots.get, if_true, if_false, true_and, ↓ap_loadL, apL_mk, pLoad_agg ag40 sz40, ↓ap_move, pop_move, cellsAt, List.getD_cons_zero, List.getD_cons_succ, Nat.zero_add, lv_bool, allLive, Bool.and_true, hlz, bufS_rd2 w₀ hok e0 ne_1q3_0q0.symm]
    repeat (with_reducible refine And.intro ?_ ?_; · first | trivial | omega | (intro hg; simp only [Bool.and_eq_true, Bool.or_eq_true, Bool.not_eq_true', Bool.and_eq_false_iff, Bool.or_eq_false_iff, Bool.not_eq_false', decide_eq_true_eq, decide_eq_false_iff_not, eqNil] at hg; omega) | (simp only [List.length_append, List.length_map, List.length_range, List.length_replicate, List.length_take, List.length_drop, List.length_cons, List.length_nil, List.length_set, List.length_reverse]; omega))
    refine aOps_callV (V := .int .i64 (zs.getD o.length 0)) (by rfl) (by rfl) (c_digit w₀ _ neg z zs hmz (by omega) o.length (by omega)) ?_
    simp (decide := true) only [aOps_nil, ev, putD, Slots.put, Slots.get, Slots.keep, if_true, if_false, true_and, ↓ap_move, pop_move, ↓ap_binOp, pop_binOp, isNilC_tmp, cond_false, pBinX_int, pI_add, ↓ap_assign, pop_assign]
    try simp (disch := omega) only [wrap_i64]
    repeat (with_reducible refine And.intro ?_ ?_; · first | trivial | omega | (intro hg; simp only [Bool.and_eq_true, Bool.or_eq_true, Bool.not_eq_true', Bool.and_eq_false_iff, Bool.or_eq_false_iff, Bool.not_eq_false', decide_eq_true_eq, decide_eq_false_iff_not, eqNil] at hg; omega) | (simp only [List.length_append, List.length_map, List.length_range, List.length_replicate, List.length_take, List.length_drop, List.length_cons, List.length_nil, List.length_set, List.length_reverse]; omega))
    apply hK; clear hK K
    -- region 7  law.go:87
    refine awp_rseq [1, 2, 3, 4, 5, 6] (by rfl) fun K hK => ?_
    simp (decide := true) only [aOps_nil, ev, absV, absS, putD, Slots.put, Slots.keep, if_true, if_false, true_and, ↓ap_assign, pop_assign]
    repeat (with_reducible refine And.intro ?_ ?_; · first | trivial | omega | (intro hg; simp only [Bool.and_eq_true, Bool.or_eq_true, Bool.not_eq_true', Bool.and_eq_false_iff, Bool.or_eq_false_iff, Bool.not_eq_false', decide_eq_true_eq, decide_eq_false_iff_not, eqNil] at hg; omega) | (simp only [List.length_append, List.length_map, List.length_range, List.length_replicate, List.length_take, List.length_drop, List.length_cons, List.length_nil, List.length_set, List.length_reverse]; omega))
    apply hK; clear hK K
    refine awp_seq ?_
    refine awp_block ?_
    refine awp_loopG [1, 2, 3, 4, 5, 6] (fun g : Int × Int => [(1, .ptr (.own k0q0) 0), (2, .ptr (.own k0q1) 0), (3, .ptr (.own k1q3) 0), (4, .int .i64 g.1), (5, .int .i64 o.length), (6, .int .i64 g.2)]) (fun g : Int × Int => bufS ((h.set k0q0 ⟨[.bool neg, z], 0⟩).set k0q1 ⟨[.bool false, .nilSlice], 0⟩) k1q3 neg b) (fun g : Int × Int => zs.getD o.length 0 + c = 10 * g.1 + g.2 ∧ -(2 * B) ≤ g.2 ∧ g.2 ≤ 2 * B ∧ -(2 * B) ≤ g.1 ∧ g.1 ≤ 0 ∧ (g.1 < 0 → g.2 ≤ 9)) (fun g : Int × Int => (0 - g.2).toNat) (0, zs.getD o.length 0 + c) (by rfl) (Sub.refl _) ⟨by simp, by simp only; omega, by simp only; omega, by simp only; omega, by simp, by simp⟩ ?_
    rintro ⟨c2, n⟩ ⟨e2, n1, n2, c1, c0, c9⟩
    simp only at e2 n1 n2 c1 c0 c9 ⊢
    refine awp_seq ?_
    -- region 8  law.go:88
    refine awp_rseq [1, 2, 3, 4, 5, 6, 27] (by rfl) fun K hK => ?_
    simp (decide := true) only [aOps_nil, ev, absV, absS, putD, Slots.put, Slots.get, Slots.keep, if_true, if_false, true_and, ↓ap_move, pop_move, ↓ap_binOp, pop_binOp, isNilC_int, cond_false, pBinX_int, pI_lss]
    repeat (with_reducible refine And.intro ?_ ?_; · first | trivial | omega | (intro hg; simp only [Bool.and_eq_true, Bool.or_eq_true, Bool.not_eq_true', Bool.and_eq_false_iff, Bool.or_eq_false_iff, Bool.not_eq_false', decide_eq_true_eq, decide_eq_false_iff_not, eqNil] at hg; omega) | (simp only [List.length_append, List.length_map, List.length_range, List.length_replicate, List.length_take, List.length_drop, List.length_cons, List.length_nil, List.length_set, List.length_reverse]; omega))
    apply hK; clear hK K
    refine awp_cond (b := _) rfl (fun hb2 => ?_) (fun hb2 => ?_)
    · try simp only [decide_eq_true_eq] at hb2
      refine awp_skip ?_
      change Awp _ _ _ _ _ _ _
      refine awp_block ?_
      -- region 9  law.go:89
      refine awp_rseq [1, 2, 3, 4, 5, 6] (by rfl) fun K hK => ?_
      simp (decide := true) only [aOps_nil, ev, absV, absS, putD, Slots.put, Slots.get, Slots.keep, if_true, if_false, true_and, ↓ap_move, pop_move, ↓ap_binOp, pop_binOp, isNilC_int, cond_false, pBinX_int, pI_add, ↓ap_assign, pop_assign]
      try simp (disch := omega) only [wrap_i64]
      repeat (with_reducible refine And.intro ?_ ?_; · first | trivial | omega | (intro hg; simp only [Bool.and_eq_true, Bool.or_eq_true, Bool.not_eq_true', Bool.and_eq_false_iff, Bool.or_eq_false_iff, Bool.not_eq_false', decide_eq_true_eq, decide_eq_false_iff_not, eqNil] at hg; omega) | (simp only [List.length_append, List.length_map, List.length_range, List.length_replicate, List.length_take, List.length_drop, List.length_cons, List.length_nil, List.length_set, List.length_reverse]; omega))
      apply hK; clear hK K
      -- region 10  law.go:90
      refine awp_r [1, 2, 3, 4, 5, 6] (by rfl) ?_
      simp (decide := true) only [aOps_nil, ev, absV, absS, putD, Slots.put, Slots.get, Slots.keep, if_true, if_false, true_and, ↓ap_move, pop_move, ↓ap_binOp, pop_binOp, isNilC_int, cond_false, pBinX_int, pI_sub, ↓ap_assign, pop_assign]
      try simp (disch := omega) only [wrap_i64]
      repeat (with_reducible refine And.intro ?_ ?_; · first | trivial | omega | (intro hg; simp only [Bool.and_eq_true, Bool.or_eq_true, Bool.not_eq_true', Bool.and_eq_false_iff, Bool.or_eq_false_iff, Bool.not_eq_false', decide_eq_true_eq, decide_eq_false_iff_not, eqNil] at hg; omega) | (simp only [List.length_append, List.length_map, List.length_range, List.length_replicate, List.length_take, List.length_drop, List.length_cons, List.length_nil, List.length_set, List.length_reverse]; omega))
      try simp only [thenA_normal, inBlockA_normal]
      refine ⟨(c2 - 1, n + 10), rfl, Sub.refl _, ⟨by simp only; omega, by simp only; omega, by simp only; omega, by simp only; omega, by simp only; omega, by simp only; omega⟩, by simp only; omega⟩
    · try simp only [decide_eq_false_iff_not] at hb2
      refine awp_exit ?_
      change Awp _ _ _ _ _ _ _
      -- region 11  law.go:92
      refine awp_rseq [1, 2, 3, 4, 5, 6] (by rfl) fun K hK => ?_
      simp (decide := true) only [aOps_nil, ev, absV, absS, putD, Slots.put, Slots.get, Slots.keep, if_true, if_false, true_and, ↓ap_move, pop_move, ↓ap_binOp, pop_binOp, isNilC_int, cond_false, pBinX_int, pI_quo, isNilC_tmp, pI_add, ↓ap_assign, pop_assign]
      try simp (disch := omega) only [Int.tdiv_eq_ediv_of_nonneg, wrap_i64]
      repeat (with_reducible refine And.intro ?_ ?_; · first | trivial | omega | (intro hg; simp only [Bool.and_eq_true, Bool.or_eq_true, Bool.not_eq_true', Bool.and_eq_false_iff, Bool.or_eq_false_iff, Bool.not_eq_false', decide_eq_true_eq, decide_eq_false_iff_not, eqNil] at hg; omega) | (simp only [List.length_append, List.length_map, List.length_range, List.length_replicate, List.length_take, List.length_drop, List.length_cons, List.length_nil, List.length_set, List.length_reverse]; omega))
      apply hK; clear hK K
      -- region 12  law.go:93
      refine awp_r [1, 2, 3, 4, 5] (by rfl) ?_
      simp (decide := true) only [ev, absV, absS, putD, Slots.put, Slots.get, if_true, if_false, true_and, ↓ap_fieldAddr, pop_fieldAddr, fa40_1, ↓ap_loadL, apL_mk, pLoad_one ag38, ↓ap_move, pop_move, ↓ap_binOp, pop_binOp, isNilC_int, cond_false, pBinX_int, pI_rem, List.getD_cons_zero, List.getD_cons_succ, Nat.zero_add, bufS_rd w₀ hok, bufV_live]
      try simp (disch := omega) only [Int.tmod_eq_emod_of_nonneg]
      repeat (with_reducible refine And.intro ?_ ?_; · first | trivial | omega | (intro hg; simp only [Bool.and_eq_true, Bool.or_eq_true, Bool.not_eq_true', Bool.and_eq_false_iff, Bool.or_eq_false_iff, Bool.not_eq_false', decide_eq_true_eq, decide_eq_false_iff_not, eqNil] at hg; omega) | (simp only [List.length_append, List.length_map, List.length_range, List.length_replicate, List.length_take, List.length_drop, List.length_cons, List.length_nil, List.length_set, List.length_reverse]; omega))
      refine aOps_buildSlice (cs := intCells [n % 10]) (by kernel_rfl) fun k12q4 hk12q4 => ?_
      refine aOps_appendBuf (h₀ := ((h.set k0q0 ⟨[.bool neg, z], 0⟩).set k0q1 ⟨[.bool false, .nilSlice], 0⟩).set k1q3 ⟨[.bool neg, bufV 1 b], 0⟩) (b := b) (src := intCells [n % 10]) (by rfl) (by rfl) Tryz.underlying38 Tryz.underlying38 (by intro k e; cases e) sz3 by3 ze3 (by rfl) (by decide) (by rfl) hok (Sub.set hk12q4) (by rfl) (by rfl) (src_one w₀ _ _ _).1 (src_one w₀ _ _ _).2 (by rfl) (by rfl) (by rfl) (by omega) (by omega) fun b' h' hok' hc' hs' => ?_
      simp (decide := true) only [ev, putD, Slots.put, Slots.get, if_true, if_false, true_and, ↓ap_fieldAddr, pop_fieldAddr, fa40_1, Nat.zero_add]
      repeat (with_reducible refine And.intro ?_ ?_; · first | trivial | omega | (intro hg; simp only [Bool.and_eq_true, Bool.or_eq_true, Bool.not_eq_true', Bool.and_eq_false_iff, Bool.or_eq_false_iff, Bool.not_eq_false', decide_eq_true_eq, decide_eq_false_iff_not, eqNil] at hg; omega) | (simp only [List.length_append, List.length_map, List.length_range, List.length_replicate, List.length_take, List.length_drop, List.length_cons, List.length_nil, List.length_set, List.length_reverse]; omega))
      refine aOps_store (by rfl) (by rfl) (hs' _ _ (bufH_at hok' (AHeap.set_same _ _ _))) sz38 (bufV_live _ _) (by rw [bufV_cells]; rfl) (by simp) (Nat.zero_le _) (by rw [bufV_cells]; simp [allScal, bufV_scal]) ?_
      rw [bufV_cells]
      simp only [setAt, List.set_cons_succ, List.set_cons_zero]
      simp (decide := true) only [aOps_nil, putD, Slots.keep, if_true, if_false]
      repeat (with_reducible refine And.intro ?_ ?_; · first | trivial | omega | (intro hg; simp only [Bool.and_eq_true, Bool.or_eq_true, Bool.not_eq_true', Bool.and_eq_false_iff, Bool.or_eq_false_iff, Bool.not_eq_false', decide_eq_true_eq, decide_eq_false_iff_not, eqNil] at hg; omega) | (simp only [List.length_append, List.length_map, List.length_range, List.length_replicate, List.length_take, List.length_drop, List.length_cons, List.length_nil, List.length_set, List.length_reverse]; omega))
      change Awp _ _ _ _ _ _ _
      -- region 5  law.go:85
      refine awp_r [1, 2, 3, 4, 5] (by rfl) ?_
      simp (decide := true) only [aOps_nil, ev, absV, absS, putD, Slots.put, Slots.get, Slots.keep, if_true, if_false, true_and, ↓ap_move, pop_move, ↓ap_binOp, pop_binOp, isNilC_int, cond_false, pBinX_int, pI_add, ↓ap_assign, pop_assign]
      try simp (disch := omega) only [wrap_i64]
      repeat (with_reducible refine And.intro ?_ ?_; · first | trivial | omega | (intro hg; simp only [Bool.and_eq_true, Bool.or_eq_true, Bool.not_eq_true', Bool.and_eq_false_iff, Bool.or_eq_false_iff, Bool.not_eq_false', decide_eq_true_eq, decide_eq_false_iff_not, eqNil] at hg; omega) | (simp only [List.length_append, List.length_map, List.length_range, List.length_replicate, List.length_take, List.length_drop, List.length_cons, List.length_nil, List.length_set, List.length_reverse]; omega))
      try simp only [thenA_normal]
      refine ⟨(c2 + n / 10, o ++ [n % 10], b'), ?_, (bufS_store hok' hs').1, ⟨⟨by simp only; omega, by simp only; omega⟩, ho.snoc (by omega) (by omega), by simp only [List.length_append, List.length_singleton]; omega, ?_, (bufS_store hok' hs').2, ?_⟩, ?_⟩
      · simp only [List.length_append, List.length_singleton]
        rfl
      · simp only [List.length_append, List.length_singleton]
        exact settle_step hv' rfl (by omega)
      · simp only
        rw [hc', hc, ← intCells_append]
      · simp only [List.length_append, List.length_singleton]
        by_cases e : o.length < zs.length
        · obtain ⟨r, hr⟩ : ∃ r, zs.length - o.length = r + 1 := ⟨zs.length - o.length - 1, by omega⟩
          rw [show zs.length - (o.length + 1) = r by omega, hr, Nat.add_mul, Nat.one_mul]
          generalize r * (2 * B + 2).toNat = q
          omega
        · have hz0 : zs.getD o.length 0 = 0 := by rw [List.getD, List.getElem?_eq_none (by omega)]; rfl
          rw [show zs.length - (o.length + 1) = 0 by omega, show zs.length - o.length = 0 by omega, Nat.zero_mul]
          omega
  · try simp only [decide_eq_false_iff_not, Bool.or_eq_false_iff] at hb1
    rw [List.take_of_length_le (by omega)] at hv'
    have hc0 := settle_end ho hv' h0 (by omega)
    rw [hc0, Int.zero_mul, Int.add_zero] at hv'
    refine awp_exit ?_
    change Awp _ _ _ _ _ _ _
    -- region 13  law.go:95
    refine awp_rseq [2] (by rfl) fun K hK => ?_
    simp (decide := true) only [ev, putD, Slots.put, Slots.get, if_true, if_false, true_and, ↓ap_loadL, apL_mk, pLoad_agg ag40 sz40, cellsAt, List.getD_cons_zero, List.getD_cons_succ, Nat.zero_add, lv_bool, allLive, Bool.and_true, bufS_rd w₀ hok, bufV_live]
    repeat (with_reducible refine And.intro ?_ ?_; · first | trivial | omega | (intro hg; simp only [Bool.and_eq_true, Bool.or_eq_true, Bool.not_eq_true', Bool.and_eq_false_iff, Bool.or_eq_false_iff, Bool.not_eq_false', decide_eq_true_eq, decide_eq_false_iff_not, eqNil] at hg; omega) | (simp only [List.length_append, List.length_map, List.length_range, List.length_replicate, List.length_take, List.length_drop, List.length_cons, List.length_nil, List.length_set, List.length_reverse]; omega))
    refine aOps_store (v := .agg [.bool neg, bufV 1 b]) (by rfl) (by rfl) (bufH_at hok ((AHeap.set_ne _ _ ne_1q3_0q1.symm).trans (AHeap.set_same _ _ _))) sz40 (by rfl) (by rfl) (Nat.le_refl _) (Nat.zero_le _) (by cases b <;> rfl) ?_
    simp only [setAt, AVal.cells, List.length_nil, List.set_cons_zero, List.set_cons_succ, Nat.zero_add]
    simp (decide := true) only [aOps_nil, putD, Slots.keep, if_true, if_false]
    repeat (with_reducible refine And.intro ?_ ?_; · first | trivial | omega | (intro hg; simp only [Bool.and_eq_true, Bool.or_eq_true, Bool.not_eq_true', Bool.and_eq_false_iff, Bool.or_eq_false_iff, Bool.not_eq_false', decide_eq_true_eq, decide_eq_false_iff_not, eqNil] at hg; omega) | (simp only [List.length_append, List.length_map, List.length_range, List.length_replicate, List.length_take, List.length_drop, List.length_cons, List.length_nil, List.length_set, List.length_reverse]; omega))
    apply hK; clear hK K
    refine awp_ret ?_
    try simp only [thenA_ret, inBlockA_ret]
    refine retA_retE (?_) ?_
    · simp (decide := true) only [resPre, resV_cell, Slots.get, if_true, and_true, resV_cell, pLoad_agg ag40 sz40, rd_set, cellsAt, List.getD_cons_zero, List.getD_cons_succ, Nat.zero_add, lv_bool, allLive, Bool.and_true, cellsAt, List.getD_cons_zero, List.getD_cons_succ, Nat.zero_add, lv_bool, allLive, Bool.and_true, bufV_live]
    
    simp (decide := true) only [Slots.get, if_true, resOfG_one, resV_cell, pLoad_agg ag40 sz40, rd_set, cellsAt, List.getD_cons_zero, List.getD_cons_succ, Nat.zero_add, lv_bool, allLive, Bool.and_true, cellsAt, List.getD_cons_zero, List.getD_cons_succ, Nat.zero_add, lv_bool, allLive, Bool.and_true, bufV_live]
    obtain ⟨q1, q2⟩ := bufS_done (h := h) (X := ⟨[.bool neg, bufV 1 b], 0⟩) hok ((AHeap.set_ne _ _ ne_1q3_0q1.symm).trans (AHeap.set_same _ _ _)) hc (by repeat (first | exact Sub.refl _ | refine Sub.trans_set ?_ (by assumption)))
    exact ⟨_, Sub.refl _, ⟨_, o, rfl, q1, ho, hv'.symm, hol⟩, q2⟩
end Go.Proofs.YthiiakghjoeikaaGreatDoor

/-
  The statements' big numbers: add.
  Conditions: none.
-/
namespace Go.Proofs.YthiiakghjoeikaaGreatDoor
open Go.AM
open Go.Proofs
open Go.Dec
open Go.Lib (decDigits)
set_option maxRecDepth 100000

theorem HoldsZ.set_bool {h : AHeap} {z : AVal} {zs : List Int} (hz : HoldsZ h z zs) {j : Nat} {n : Bool} {cs : List AVal} {f : Nat} (hj : h j = some ⟨.bool n :: cs, f⟩) (X : Blk) : HoldsZ (h.set j X) z zs := by
  rcases hz with e | ⟨k, c, e1, e2⟩
  · exact .inl e
  · refine .inr ⟨k, c, e1, ?_⟩
    have hne : k ≠ j := by
      rintro rfl
      rw [e2] at hj
      have hc := congrArg Blk.cells (Option.some.inj hj)
      simp only [intCells] at hc
      cases zs with
      | nil => cases hc
      | cons a b => cases hc
    rw [AHeap.set_ne _ _ hne]
    exact e2
theorem HoldsZ.scal {h : AHeap} {z : AVal} {zs : List Int} (hz : HoldsZ h z zs) : z.scal = true := by
  rcases hz with ⟨rfl, rfl⟩ | ⟨k, c, rfl, _⟩ <;> rfl
theorem scal_big {n : Bool} {z : AVal} (h : z.scal = true) : allScal (AVal.agg [.bool n, z]).cells = true := by
  show ((AVal.bool n).scal && (z.scal && true)) = true
  rw [h]
  rfl
theorem swap_heap (h : AHeap) {a b c : Nat} (ab : b ≠ a) (ac : c ≠ a) (bc : c ≠ b) (X Y Z X' Y' : Blk) : ((((h.set a X).set b Y).set c Z).set a X').set b Y' = ((h.set a X').set b Y').set c Z := by
  funext j
  simp only [AHeap.set]
  by_cases e1 : j = a
  · subst e1; simp [ab.symm, ac.symm]
  · by_cases e2 : j = b
    · subst e2; simp [bc.symm]
    · simp [e1, e2]
def sumZ (s : Int) (x y : List Int) (n : Nat) : List Int := (List.range n).map fun j => x.getD j 0 + s * y.getD j 0
theorem sumZ_succ (s : Int) (x y : List Int) (n : Nat) : sumZ s x y (n + 1) = sumZ s x y n ++ [x.getD n 0 + s * y.getD n 0] := by simp [sumZ, List.range_succ]
theorem sumZ_length (s : Int) (x y : List Int) (n : Nat) : (sumZ s x y n).length = n := by simp [sumZ]
theorem leV_sumZ (s : Int) (x y : List Int) : ∀ n : Nat, leV (sumZ s x y n) = leV (x.take n) + s * leV (y.take n)
  | 0 => by simp [sumZ, leV, valL]
  | n + 1 => by
    rw [sumZ_succ, leV_snoc, sumZ_length, leV_sumZ s x y n, leV_take, leV_take, Int.mul_add, Int.add_mul]
    have : s * (y.getD n 0 * 10 ^ n) = s * y.getD n 0 * 10 ^ n := by rw [Int.mul_assoc]
    omega
theorem sumZ_at (s : Int) (x y : List Int) (n i : Nat) : (sumZ s x y n).getD i 0 = if i < n then x.getD i 0 + s * y.getD i 0 else 0 := by
  unfold sumZ
  split
  · rename_i h
    simp [List.getD, h]
  · rename_i h
    simp [List.getD, h]
/-- The sign and the value of a sum. -/
theorem sum_sign {n1 n2 : Bool} {a b : Int} : (n1 = n2 → sgV n1 (a + 1 * b) = sgV n1 a + sgV n2 b) ∧ (n1 ≠ n2 → sgV n1 (a + -1 * b) = sgV n1 a + sgV n2 b ∧ sgV n2 (b + -1 * a) = sgV n1 a + sgV n2 b) := by
  cases n1 <;> cases n2 <;> simp [sgV] <;> omega

structure AddG where
  s : Int
  m1 : Bool
  w1 : AVal
  x : List Int
  m2 : Bool
  w2 : AVal
  y : List Int
def AddG.ok (h : AHeap) (N : Nat) (t : Int) (g : AddG) : Prop := HoldsZ h g.w1 g.x ∧ HoldsZ h g.w2 g.y ∧ digZ g.x ∧ digZ g.y ∧ g.x.length ≤ N ∧ g.y.length ≤ N ∧ (g.s = 1 ∨ g.s = -1) ∧ 0 ≤ leV g.x + g.s * leV g.y ∧ sgV g.m1 (leV g.x + g.s * leV g.y) = t
set_option maxHeartbeats 2000000 in
theorem c_add (w₀ : World) (h : AHeap) (n1 n2 : Bool) (z1 z2 : AVal) (x y : List Int) (hz1 : HoldsZ h z1 x) (hz2 : HoldsZ h z2 y) (hx : digZ x) (hy : digZ y) (N : Nat) (hN : N ≤ 10000) (lx : x.length ≤ N) (ly : y.length ≤ N) :
    ACall Tryz.prog w₀ 29 [.agg [.bool n1, z1], .agg [.bool n2, z2]] h (fun v h' => (∃ n z o, v = .agg [.bool n, z] ∧ HoldsZ h' z o ∧ digZ o ∧ sgV n (leV o) = sgV n1 (leV x) + sgV n2 (leV y) ∧ o.length ≤ N + 1) ∧ Sub h h') := by
  have hl1 := hz1.live
  have hl2 := hz2.live
  obtain ⟨bx0, bx1⟩ := leV_bound x hx
  obtain ⟨by0, by1⟩ := leV_bound y hy
  refine acall_intro (n := 48) (rs := [.cell 4 40]) Tryz.func29 rfl rfl rfl rfl (Nat.le_of_ble_eq_true rfl) ?_
  simp only [initSlots]
  -- region 0  law.go:99
  refine awp_rseq [2, 3, 4] (by rfl) fun K hK => ?_
  refine aOps_box (by rfl) (by rfl) (by rfl) fun k0q0 hk0q0 => ?_
  try have hf_0q0 : h k0q0 = none := by first | assumption | (simp only [AHeap.set_none] at hk0q0; simp only [hk0q0])
  skip
  refine aOps_box (by rfl) (by rfl) (by rfl) fun k0q1 hk0q1 => ?_
  have ne_0q1_0q0 : k0q1 ≠ k0q0 := by simp only [AHeap.set_none] at hk0q1; simp only [hk0q1, ne_eq, not_false_eq_true]
  try have hf_0q1 : h k0q1 = none := by first | assumption | (simp only [AHeap.set_none] at hk0q1; simp only [hk0q1])
  skip
  refine aOps_alloc ze40 (cs := [.bool false, .nilSlice]) (by rfl) fun k0q2 hk0q2 => ?_
  have ne_0q2_0q0 : k0q2 ≠ k0q0 := by simp only [AHeap.set_none] at hk0q2; simp only [hk0q2, ne_eq, not_false_eq_true]
  have ne_0q2_0q1 : k0q2 ≠ k0q1 := by simp only [AHeap.set_none] at hk0q2; simp only [hk0q2, ne_eq, not_false_eq_true]
  try have hf_0q2 : h k0q2 = none := by first | assumption | (simp only [AHeap.set_none] at hk0q2; simp only [hk0q2])
  simp (decide := true) only [aOps_nil, ev, putD, Slots.put, Slots.get, Slots.keep, if_true, if_false, AVal.cells, Nat.zero_add]
  repeat (with_reducible refine And.intro ?_ ?_; · first | trivial | omega | (intro hg; simp only [Bool.and_eq_true, Bool.or_eq_true, Bool.not_eq_true', Bool.and_eq_false_iff, Bool.or_eq_false_iff, Bool.not_eq_false', decide_eq_true_eq, decide_eq_false_iff_not, eqNil] at hg; omega) | (simp only [List.length_append, List.length_map, List.length_range, List.length_replicate, List.length_take, List.length_drop, List.length_cons, List.length_nil, List.length_set, List.length_reverse]; omega))
  apply hK; clear hK K
  -- region 1  law.go:100
  refine awp_rseq [2, 3, 4, 5] (by rfl) fun K hK => ?_
  simp (decide := true) only [aOps_nil, ev, absV, absS, putD, Slots.put, Slots.keep, if_true, if_false, true_and, ↓ap_assign, pop_assign]
  repeat (with_reducible refine And.intro ?_ ?_; · first | trivial | omega | (intro hg; simp only [Bool.and_eq_true, Bool.or_eq_true, Bool.not_eq_true', Bool.and_eq_false_iff, Bool.or_eq_false_iff, Bool.not_eq_false', decide_eq_true_eq, decide_eq_false_iff_not, eqNil] at hg; omega) | (simp only [List.length_append, List.length_map, List.length_range, List.length_replicate, List.length_take, List.length_drop, List.length_cons, List.length_nil, List.length_set, List.length_reverse]; omega))
  apply hK; clear hK K
  refine awp_seq ?_
  -- region 2  law.go:101
  refine awp_rseq [2, 3, 4, 5, 12] (by rfl) fun K hK => ?_
  simp (decide := true) only [aOps_nil, ev, putD, Slots.put, Slots.get, Slots.keep, if_true, if_false, true_and, ↓ap_fieldAddr, pop_fieldAddr, fa40_0, ↓ap_loadL, apL_mk, pLoad_one ag4, ↓ap_binOp, pop_binOp, isNilC_tmp, cond_false, pBinX_bne, Tryz.underlying4, rd_ne', ne_eq, not_false_eq_true, ne_0q1_0q0.symm, ne_0q2_0q0.symm, ne_0q2_0q1.symm, rd_any, List.getD_cons_zero, Nat.zero_add, lv_bool]
  repeat (with_reducible refine And.intro ?_ ?_; · first | trivial | omega | (intro hg; simp only [Bool.and_eq_true, Bool.or_eq_true, Bool.not_eq_true', Bool.and_eq_false_iff, Bool.or_eq_false_iff, Bool.not_eq_false', decide_eq_true_eq, decide_eq_false_iff_not, eqNil] at hg; omega) | (simp only [List.length_append, List.length_map, List.length_range, List.length_replicate, List.length_take, List.length_drop, List.length_cons, List.length_nil, List.length_set, List.length_reverse]; omega))
  apply hK; clear hK K
  refine awp_joinT [2, 3, 4, 5] (fun g : AddG => [(2, .ptr (.own k0q0) 0), (3, .ptr (.own k0q1) 0), (4, .ptr (.own k0q2) 0), (5, .int .i64 g.s)]) (fun g : AddG => ((h.set k0q0 ⟨[.bool g.m1, g.w1], 0⟩).set k0q1 ⟨[.bool g.m2, g.w2], 0⟩).set k0q2 ⟨[.bool false, .nilSlice], 0⟩) (fun g : AddG => g.ok h N (sgV n1 (leV x) + sgV n2 (leV y))) ?_ ?_
  · refine awp_cond (b := _) rfl (fun hb1 => ?_) (fun hb1 => ?_)
    · try simp only [Bool.not_eq_true'] at hb1
      have hne : n1 ≠ n2 := by simpa using hb1
      -- region 3  law.go:102
      refine awp_rseq [2, 3, 4, 5] (by rfl) fun K hK => ?_
      simp (decide := true) only [aOps_nil, ev, absV, absS, putD, Slots.put, Slots.keep, if_true, if_false, true_and, ↓ap_assign, pop_assign]
      repeat (with_reducible refine And.intro ?_ ?_; · first | trivial | omega | (intro hg; simp only [Bool.and_eq_true, Bool.or_eq_true, Bool.not_eq_true', Bool.and_eq_false_iff, Bool.or_eq_false_iff, Bool.not_eq_false', decide_eq_true_eq, decide_eq_false_iff_not, eqNil] at hg; omega) | (simp only [List.length_append, List.length_map, List.length_range, List.length_replicate, List.length_take, List.length_drop, List.length_cons, List.length_nil, List.length_set, List.length_reverse]; omega))
      apply hK; clear hK K
      -- region 4  law.go:103
      refine awp_rseq [2, 3, 4, 5, 15] (by rfl) fun K hK => ?_
      simp (decide := true) only [ev, putD, Slots.put, Slots.get, if_true, if_false, true_and, ↓ap_loadL, apL_mk, pLoad_agg ag40 sz40, rd_ne', ne_eq, not_false_eq_true, ne_0q1_0q0.symm, ne_0q2_0q0.symm, ne_0q2_0q1.symm, rd_any, cellsAt, List.getD_cons_zero, List.getD_cons_succ, Nat.zero_add, lv_bool, allLive, Bool.and_true, hl1, hl2]
      repeat (with_reducible refine And.intro ?_ ?_; · first | trivial | omega | (intro hg; simp only [Bool.and_eq_true, Bool.or_eq_true, Bool.not_eq_true', Bool.and_eq_false_iff, Bool.or_eq_false_iff, Bool.not_eq_false', decide_eq_true_eq, decide_eq_false_iff_not, eqNil] at hg; omega) | (simp only [List.length_append, List.length_map, List.length_range, List.length_replicate, List.length_take, List.length_drop, List.length_cons, List.length_nil, List.length_set, List.length_reverse]; omega))
      refine aOps_callV (V := .bool (decide (leV x < leV y))) (by rfl) (by rfl) (c_less w₀ _ n1 n2 z1 z2 x y (hz1.sub (by repeat (first | exact Sub.refl _ | refine Sub.trans_set ?_ (by assumption)))) (hz2.sub (by repeat (first | exact Sub.refl _ | refine Sub.trans_set ?_ (by assumption)))) hx hy (by omega) (by omega)) ?_
      simp (decide := true) only [aOps_nil, putD, Slots.put, Slots.keep, if_true, if_false]
      repeat (with_reducible refine And.intro ?_ ?_; · first | trivial | omega | (intro hg; simp only [Bool.and_eq_true, Bool.or_eq_true, Bool.not_eq_true', Bool.and_eq_false_iff, Bool.or_eq_false_iff, Bool.not_eq_false', decide_eq_true_eq, decide_eq_false_iff_not, eqNil] at hg; omega) | (simp only [List.length_append, List.length_map, List.length_range, List.length_replicate, List.length_take, List.length_drop, List.length_cons, List.length_nil, List.length_set, List.length_reverse]; omega))
      apply hK; clear hK K
      refine awp_cond (b := _) rfl (fun hb2 => ?_) (fun hb2 => ?_)
      · try simp only [decide_eq_true_eq] at hb2
        -- region 5  law.go:104
        refine awp_r [2, 3, 4, 5] (by rfl) ?_
        simp (decide := true) only [ev, putD, Slots.put, Slots.get, if_true, if_false, true_and, ↓ap_loadL, apL_mk, pLoad_agg ag40 sz40, rd_ne', ne_eq, not_false_eq_true, ne_0q1_0q0.symm, ne_0q2_0q0.symm, ne_0q2_0q1.symm, rd_any, cellsAt, List.getD_cons_zero, List.getD_cons_succ, Nat.zero_add, lv_bool, allLive, Bool.and_true, hl1, hl2]
        repeat (with_reducible refine And.intro ?_ ?_; · first | trivial | omega | (intro hg; simp only [Bool.and_eq_true, Bool.or_eq_true, Bool.not_eq_true', Bool.and_eq_false_iff, Bool.or_eq_false_iff, Bool.not_eq_false', decide_eq_true_eq, decide_eq_false_iff_not, eqNil] at hg; omega) | (simp only [List.length_append, List.length_map, List.length_range, List.length_replicate, List.length_take, List.length_drop, List.length_cons, List.length_nil, List.length_set, List.length_reverse]; omega))
        refine aOps_store (v := .agg [.bool n2, z2]) (by rfl) (by rfl) ((AHeap.set_ne _ _ ne_0q2_0q0.symm).trans ((AHeap.set_ne _ _ ne_0q1_0q0.symm).trans (AHeap.set_same _ _ _))) sz40 (by rfl) (by rfl) (Nat.le_refl _) (Nat.zero_le _) (scal_big hz2.scal) ?_
        simp only [setAt, AVal.cells, List.length_nil, List.set_cons_zero, List.set_cons_succ, Nat.zero_add]
        refine aOps_store (v := .agg [.bool n1, z1]) (by rfl) (by rfl) ((AHeap.set_ne _ _ ne_0q1_0q0).trans ((AHeap.set_ne _ _ ne_0q2_0q1.symm).trans (AHeap.set_same _ _ _))) sz40 (by rfl) (by rfl) (Nat.le_refl _) (Nat.zero_le _) (scal_big hz1.scal) ?_
        simp only [setAt, AVal.cells, List.length_nil, List.set_cons_zero, List.set_cons_succ, Nat.zero_add]
        simp (decide := true) only [aOps_nil, putD, Slots.keep, if_true, if_false]
        repeat (with_reducible refine And.intro ?_ ?_; · first | trivial | omega | (intro hg; simp only [Bool.and_eq_true, Bool.or_eq_true, Bool.not_eq_true', Bool.and_eq_false_iff, Bool.or_eq_false_iff, Bool.not_eq_false', decide_eq_true_eq, decide_eq_false_iff_not, eqNil] at hg; omega) | (simp only [List.length_append, List.length_map, List.length_range, List.length_replicate, List.length_take, List.length_drop, List.length_cons, List.length_nil, List.length_set, List.length_reverse]; omega))
        try simp only [thenA_normal]
        first
        | (have q : leV x < leV y := by assumption
           refine ⟨⟨-1, n2, z2, y, n1, z1, x⟩, rfl, ?_, hz2, hz1, hy, hx, ly, lx, .inr rfl, by simp only; omega, (sum_sign.2 hne).2⟩
           rw [swap_heap h ne_0q1_0q0 ne_0q2_0q0 ne_0q2_0q1]
           exact Sub.refl _)
        | (have q : ¬ leV x < leV y := by assumption
           exact ⟨⟨-1, n1, z1, x, n2, z2, y⟩, rfl, Sub.refl _, hz1, hz2, hx, hy, lx, ly, .inr rfl, by simp only; omega, (sum_sign.2 hne).1⟩)
        | exact ⟨⟨1, n1, z1, x, n2, z2, y⟩, rfl, Sub.refl _, hz1, hz2, hx, hy, lx, ly, .inl rfl, by simp only; omega, sum_sign.1 heq⟩
      · try simp only [decide_eq_false_iff_not] at hb2
        refine awp_skip ?_
        try simp only [thenA_normal]
        first
        | (have q : leV x < leV y := by assumption
           refine ⟨⟨-1, n2, z2, y, n1, z1, x⟩, rfl, ?_, hz2, hz1, hy, hx, ly, lx, .inr rfl, by simp only; omega, (sum_sign.2 hne).2⟩
           rw [swap_heap h ne_0q1_0q0 ne_0q2_0q0 ne_0q2_0q1]
           exact Sub.refl _)
        | (have q : ¬ leV x < leV y := by assumption
           exact ⟨⟨-1, n1, z1, x, n2, z2, y⟩, rfl, Sub.refl _, hz1, hz2, hx, hy, lx, ly, .inr rfl, by simp only; omega, (sum_sign.2 hne).1⟩)
        | exact ⟨⟨1, n1, z1, x, n2, z2, y⟩, rfl, Sub.refl _, hz1, hz2, hx, hy, lx, ly, .inl rfl, by simp only; omega, sum_sign.1 heq⟩
    · try simp only [Bool.not_eq_false'] at hb1
      have heq : n1 = n2 := by simpa using hb1
      refine awp_skip ?_
      try simp only [thenA_normal]
      first
      | (have q : leV x < leV y := by assumption
         refine ⟨⟨-1, n2, z2, y, n1, z1, x⟩, rfl, ?_, hz2, hz1, hy, hx, ly, lx, .inr rfl, by simp only; omega, (sum_sign.2 hne).2⟩
         rw [swap_heap h ne_0q1_0q0 ne_0q2_0q0 ne_0q2_0q1]
         exact Sub.refl _)
      | (have q : ¬ leV x < leV y := by assumption
         exact ⟨⟨-1, n1, z1, x, n2, z2, y⟩, rfl, Sub.refl _, hz1, hz2, hx, hy, lx, ly, .inr rfl, by simp only; omega, (sum_sign.2 hne).1⟩)
      | exact ⟨⟨1, n1, z1, x, n2, z2, y⟩, rfl, Sub.refl _, hz1, hz2, hx, hy, lx, ly, .inl rfl, by simp only; omega, sum_sign.1 heq⟩
  · have tt : ∃ t, t = sgV n1 (leV x) + sgV n2 (leV y) := ⟨_, rfl⟩
    obtain ⟨t, ht⟩ := tt
    rw [← ht]
    clear hl1 hl2 bx0 bx1 by0 by1 hz1 hz2 hx hy lx ly ht
    clear x y
    rintro ⟨s, m1, w1, x, m2, w2, y⟩ ⟨hz1, hz2, hx, hy, lx, ly, hs, hpos, hsg⟩
    simp only at hz1 hz2 hx hy lx ly hs hpos hsg ⊢
    obtain ⟨bx0, bx1⟩ := leV_bound x hx
    obtain ⟨by0, by1⟩ := leV_bound y hy
    have hl1 := hz1.live
    have hl2 := hz2.live
    have e0 : (((h.set k0q0 ⟨[.bool m1, w1], 0⟩).set k0q1 ⟨[.bool m2, w2], 0⟩).set k0q2 ⟨[.bool false, .nilSlice], 0⟩) k0q0 = some ⟨[.bool m1, w1], 0⟩ := by rw [AHeap.set_ne _ _ ne_0q2_0q0.symm, AHeap.set_ne _ _ ne_0q1_0q0.symm, AHeap.set_same]
    have e1 : (((h.set k0q0 ⟨[.bool m1, w1], 0⟩).set k0q1 ⟨[.bool m2, w2], 0⟩).set k0q2 ⟨[.bool false, .nilSlice], 0⟩) k0q1 = some ⟨[.bool m2, w2], 0⟩ := by rw [AHeap.set_ne _ _ ne_0q2_0q1.symm, AHeap.set_same]
    -- region 6  law.go:107
    refine awp_rseq [2, 3, 4, 5, 6] (by rfl) fun K hK => ?_
    simp (decide := true) only [ev, absV, absS, putD, Slots.put, Slots.get, if_true, if_false, true_and, ↓ap_fieldAddr, pop_fieldAddr, fa40_0, ↓ap_loadL, apL_mk, pLoad_one ag4, ↓ap_build, ↓pop_buildL, bld40_0, evP, List.map_cons, List.map_nil, rd_ne', ne_eq, not_false_eq_true, ne_0q1_0q0.symm, ne_0q2_0q0.symm, rd_any, List.getD_cons_zero, Nat.zero_add, lv_bool]
    repeat (with_reducible refine And.intro ?_ ?_; · first | trivial | omega | (intro hg; simp only [Bool.and_eq_true, Bool.or_eq_true, Bool.not_eq_true', Bool.and_eq_false_iff, Bool.or_eq_false_iff, Bool.not_eq_false', decide_eq_true_eq, decide_eq_false_iff_not, eqNil] at hg; omega) | (simp only [List.length_append, List.length_map, List.length_range, List.length_replicate, List.length_take, List.length_drop, List.length_cons, List.length_nil, List.length_set, List.length_reverse]; omega))
    refine aOps_alloc ze40 (cs := [.bool false, .nilSlice]) (by rfl) fun k6q3 hk6q3 => ?_
    have ne_6q3_0q0 : k6q3 ≠ k0q0 := by simp only [AHeap.set_none] at hk6q3; simp only [hk6q3, ne_eq, not_false_eq_true]
    have ne_6q3_0q1 : k6q3 ≠ k0q1 := by simp only [AHeap.set_none] at hk6q3; simp only [hk6q3, ne_eq, not_false_eq_true]
    have ne_6q3_0q2 : k6q3 ≠ k0q2 := by simp only [AHeap.set_none] at hk6q3; simp only [hk6q3, ne_eq, not_false_eq_true]
    try have hf_6q3 : h k6q3 = none := by first | assumption | (simp only [AHeap.set_none] at hk6q3; simp only [hk6q3])
    refine aOps_store (by rfl) (by rfl) (by repeat (first | exact AHeap.set_same _ _ _ | assumption | refine (AHeap.set_ne _ _ (by first | assumption | exact Ne.symm (by assumption))).trans ?_)) sz40 (by rfl) (by rfl) (by first | exact Nat.le_refl _ | decide | (simp; done) | (simp; omega)) (Nat.zero_le _) (by rfl) ?_
    simp only [AHeap.set_set, AVal.cells]
    simp (decide := true) only [aOps_nil, ev, putD, Slots.put, Slots.get, Slots.keep, if_true, if_false, setAt, List.set_cons_zero, List.set_cons_succ, Nat.zero_add]
    repeat (with_reducible refine And.intro ?_ ?_; · first | trivial | omega | (intro hg; simp only [Bool.and_eq_true, Bool.or_eq_true, Bool.not_eq_true', Bool.and_eq_false_iff, Bool.or_eq_false_iff, Bool.not_eq_false', decide_eq_true_eq, decide_eq_false_iff_not, eqNil] at hg; omega) | (simp only [List.length_append, List.length_map, List.length_range, List.length_replicate, List.length_take, List.length_drop, List.length_cons, List.length_nil, List.length_set, List.length_reverse]; omega))
    apply hK; clear hK K
    refine awp_seq ?_
    -- region 7  law.go:108
    refine awp_rseq [2, 3, 4, 5, 6, 7] (by rfl) fun K hK => ?_
    simp (decide := true) only [aOps_nil, ev, absV, absS, putD, Slots.put, Slots.keep, if_true, if_false, true_and, ↓ap_assign, pop_assign]
    repeat (with_reducible refine And.intro ?_ ?_; · first | trivial | omega | (intro hg; simp only [Bool.and_eq_true, Bool.or_eq_true, Bool.not_eq_true', Bool.and_eq_false_iff, Bool.or_eq_false_iff, Bool.not_eq_false', decide_eq_true_eq, decide_eq_false_iff_not, eqNil] at hg; omega) | (simp only [List.length_append, List.length_map, List.length_range, List.length_replicate, List.length_take, List.length_drop, List.length_cons, List.length_nil, List.length_set, List.length_reverse]; omega))
    apply hK; clear hK K
    refine awp_block ?_
    refine awp_loopG [2, 3, 4, 5, 6, 7] (fun g : Nat × Option Buf => [(2, .ptr (.own k0q0) 0), (3, .ptr (.own k0q1) 0), (4, .ptr (.own k0q2) 0), (5, .int .i64 s), (6, .ptr (.own k6q3) 0), (7, .int .i64 g.1)]) (fun g : Nat × Option Buf => bufS (((h.set k0q0 ⟨[.bool m1, w1], 0⟩).set k0q1 ⟨[.bool m2, w2], 0⟩).set k0q2 ⟨[.bool false, .nilSlice], 0⟩) k6q3 m1 g.2) (fun g : Nat × Option Buf => g.1 ≤ max x.length y.length ∧ bufOk ((((h.set k0q0 ⟨[.bool m1, w1], 0⟩).set k0q1 ⟨[.bool m2, w2], 0⟩).set k0q2 ⟨[.bool false, .nilSlice], 0⟩).set k6q3 ⟨[.bool m1, bufV 1 g.2], 0⟩) 1 g.2 ∧ bufC g.2 = intCells (sumZ s x y g.1)) (fun g : Nat × Option Buf => max x.length y.length - g.1) (0, none) (by rfl) (Sub.refl _) ⟨Nat.zero_le _, trivial, rfl⟩ ?_
    rintro ⟨i, b⟩ ⟨hi, hok, hc⟩
    simp only at hi hok hc ⊢
    have hlb : (bufC b).length ≤ 10000 := by rw [hc, intCells_length, sumZ_length]; omega
    have hsb : Sub h (bufS (((h.set k0q0 ⟨[.bool m1, w1], 0⟩).set k0q1 ⟨[.bool m2, w2], 0⟩).set k0q2 ⟨[.bool false, .nilSlice], 0⟩) k6q3 m1 b) := bufS_sub hok (by repeat (first | exact Sub.refl _ | refine Sub.trans_set ?_ (by assumption)))
    have hm1 := hz1.sub hsb
    have hm2 := hz2.sub hsb
    refine awp_seq ?_
    -- region 8  law.go:108
    refine awp_rseq [2, 3, 4, 5, 6, 7, 29] (by rfl) fun K hK => ?_
    simp (decide := true) only [aOps_nil, ev, putD, Slots.put, Slots.get, Slots.keep, if_true, if_false, true_and, ↓ap_move, pop_move, ↓ap_fieldAddr, pop_fieldAddr, fa40_1, ↓ap_loadL, apL_mk, pLoad_one ag38, ↓ap_len, pop_len, ↓ap_max, pop_max, pMax_int, evs, List.map_cons, List.map_nil, ↓ap_binOp, pop_binOp, isNilC_tmp, cond_false, pBinX_int, pI_lss, List.getD_cons_zero, List.getD_cons_succ, Nat.zero_add, hl1, hl2, hz1.len Tryz.underlying38, hz2.len Tryz.underlying38, bufS_rd2 w₀ hok e0 ne_6q3_0q0.symm, bufS_rd2 w₀ hok e1 ne_6q3_0q1.symm]
    repeat (with_reducible refine And.intro ?_ ?_; · first | trivial | omega | (intro hg; simp only [Bool.and_eq_true, Bool.or_eq_true, Bool.not_eq_true', Bool.and_eq_false_iff, Bool.or_eq_false_iff, Bool.not_eq_false', decide_eq_true_eq, decide_eq_false_iff_not, eqNil] at hg; omega) | (simp only [List.length_append, List.length_map, List.length_range, List.length_replicate, List.length_take, List.length_drop, List.length_cons, List.length_nil, List.length_set, List.length_reverse]; omega))
    apply hK; clear hK K
    refine awp_cond (b := _) rfl (fun hb3 => ?_) (fun hb3 => ?_)
    · try simp only [decide_eq_true_eq] at hb3
      have dx := hx.at i
      have dy := hy.at i
      have ey : IntKind.i64.wrap (s * y.getD i 0) = s * y.getD i 0 := by rcases hs with rfl | rfl <;> exact wrap_i64 (by omega) (by omega)
      have ex : IntKind.i64.wrap (x.getD i 0 + s * y.getD i 0) = x.getD i 0 + s * y.getD i 0 := by rcases hs with rfl | rfl <;> exact wrap_i64 (by omega) (by omega)
      refine awp_skip ?_
      change Awp _ _ _ _ _ _ _
      refine awp_seq ?_
      refine awp_block ?_
      -- region 10  law.go:109
      refine awp_draw_F 12 [] mixed (by kernel_rfl) (by rfl) ?_
      simp only [List.take_succ_cons, List.take_zero, List.drop_succ_cons, List.drop_zero]
      simp (decide := true) only [ev, putD, Slots.put, Slots.get, if_true, if_false, true_and, ↓fp_fieldAddr, pop_fieldAddr, fa40_1, ↓fp_load, pop_load, pLoad_one ag38, pLoad_agg ag40 sz40, ↓fp_move, pop_move, cellsAt, List.getD_cons_zero, List.getD_cons_succ, Nat.zero_add, lv_bool, allLive, Bool.and_true, hl1, bufS_rd2 w₀ hok e0 ne_6q3_0q0.symm, bufS_rd w₀ hok, bufV_live]
      repeat (with_reducible refine And.intro ?_ ?_; · first | trivial | omega | (intro hg; simp only [Bool.and_eq_true, Bool.or_eq_true, Bool.not_eq_true', Bool.and_eq_false_iff, Bool.or_eq_false_iff, Bool.not_eq_false', decide_eq_true_eq, decide_eq_false_iff_not, eqNil] at hg; omega) | (simp only [List.length_append, List.length_map, List.length_range, List.length_replicate, List.length_take, List.length_drop, List.length_cons, List.length_nil, List.length_set, List.length_reverse]; omega))
      refine fOps_callV (V := .int .i64 (x.getD i 0)) (by rfl) (by rfl) (by first | trivial | (simp (decide := true) only [AVal.okIn, okInL, and_true, true_and, decA, AHeap.set_same, Option.isSome_some]; done) | (simp [AVal.okIn, okInL, AHeap.set]; done)) (fun g hg => c_digit w₀ _ m1 w1 x (hm1.sub hg) (by omega) i (by omega)) ?_
      simp (decide := true) only [ev, putD, Slots.put, Slots.get, if_true, if_false, true_and, ↓fp_move, pop_move, ↓fp_load, pop_load, pLoad_agg ag40 sz40, cellsAt, List.getD_cons_zero, List.getD_cons_succ, Nat.zero_add, lv_bool, allLive, Bool.and_true, hl2, bufS_rd2 w₀ hok e1 ne_6q3_0q1.symm]
      repeat (with_reducible refine And.intro ?_ ?_; · first | trivial | omega | (intro hg; simp only [Bool.and_eq_true, Bool.or_eq_true, Bool.not_eq_true', Bool.and_eq_false_iff, Bool.or_eq_false_iff, Bool.not_eq_false', decide_eq_true_eq, decide_eq_false_iff_not, eqNil] at hg; omega) | (simp only [List.length_append, List.length_map, List.length_range, List.length_replicate, List.length_take, List.length_drop, List.length_cons, List.length_nil, List.length_set, List.length_reverse]; omega))
      refine fOps_callV (V := .int .i64 (y.getD i 0)) (by rfl) (by rfl) (by first | trivial | (simp (decide := true) only [AVal.okIn, okInL, and_true, true_and, decA, AHeap.set_same, Option.isSome_some]; done) | (simp [AVal.okIn, okInL, AHeap.set]; done)) (fun g hg => c_digit w₀ _ m2 w2 y (hm2.sub hg) (by omega) i (by omega)) ?_
      simp (decide := true) only [ev, putD, Slots.put, Slots.get, if_true, if_false, true_and, ↓fp_binOp, pop_binOp, isNilC_tmp, cond_false, pBinX_int, pI_mul, pI_add, ey, ex]
      try simp (disch := omega) only [wrap_i64, wrap_u8]
      repeat (with_reducible refine And.intro ?_ ?_; · first | trivial | omega | (intro hg; simp only [Bool.and_eq_true, Bool.or_eq_true, Bool.not_eq_true', Bool.and_eq_false_iff, Bool.or_eq_false_iff, Bool.not_eq_false', decide_eq_true_eq, decide_eq_false_iff_not, eqNil] at hg; omega) | (simp only [List.length_append, List.length_map, List.length_range, List.length_replicate, List.length_take, List.length_drop, List.length_cons, List.length_nil, List.length_set, List.length_reverse]; omega))
      refine fOps_lay (by rfl) ?_
      refine aOps_buildSlice (cs := intCells [x.getD i 0 + s * y.getD i 0]) (by kernel_rfl) fun k10q11 hk10q11 => ?_
      rw [aOps_nil]
      repeat (with_reducible refine And.intro ?_ ?_; · first | trivial | omega | (intro hg; simp only [Bool.and_eq_true, Bool.or_eq_true, Bool.not_eq_true', Bool.and_eq_false_iff, Bool.or_eq_false_iff, Bool.not_eq_false', decide_eq_true_eq, decide_eq_false_iff_not, eqNil] at hg; omega) | (simp only [List.length_append, List.length_map, List.length_range, List.length_replicate, List.length_take, List.length_drop, List.length_cons, List.length_nil, List.length_set, List.length_reverse]; omega))
      try simp only [fOps_nil]
      refine aOps_appendBuf (h₀ := (((h.set k0q0 ⟨[.bool m1, w1], 0⟩).set k0q1 ⟨[.bool m2, w2], 0⟩).set k0q2 ⟨[.bool false, .nilSlice], 0⟩).set k6q3 ⟨[.bool m1, bufV 1 b], 0⟩) (b := b) (src := intCells [x.getD i 0 + s * y.getD i 0]) (by rfl) (by rfl) Tryz.underlying38 Tryz.underlying38 (by intro k e; cases e) sz3 by3 ze3 (by rfl) (by decide) (by rfl) hok (Sub.set hk10q11) (by rfl) (by rfl) (src_one w₀ _ _ _).1 (src_one w₀ _ _ _).2 (by rfl) (by rfl) (by rfl) (by omega) (by omega) fun b' h' hok' hc' hs' => ?_
      simp (decide := true) only [ev, putD, Slots.put, Slots.get, if_true, if_false, true_and, ↓ap_fieldAddr, pop_fieldAddr, fa40_1, Nat.zero_add]
      repeat (with_reducible refine And.intro ?_ ?_; · first | trivial | omega | (intro hg; simp only [Bool.and_eq_true, Bool.or_eq_true, Bool.not_eq_true', Bool.and_eq_false_iff, Bool.or_eq_false_iff, Bool.not_eq_false', decide_eq_true_eq, decide_eq_false_iff_not, eqNil] at hg; omega) | (simp only [List.length_append, List.length_map, List.length_range, List.length_replicate, List.length_take, List.length_drop, List.length_cons, List.length_nil, List.length_set, List.length_reverse]; omega))
      refine aOps_store (by rfl) (by rfl) (hs' _ _ (bufH_at hok' (AHeap.set_same _ _ _))) sz38 (bufV_live _ _) (by rw [bufV_cells]; rfl) (by simp) (Nat.zero_le _) (by rw [bufV_cells]; simp [allScal, bufV_scal]) ?_
      rw [bufV_cells]
      simp only [setAt, List.set_cons_succ, List.set_cons_zero]
      simp (decide := true) only [aOps_nil, putD]
      repeat (with_reducible refine And.intro ?_ ?_; · first | trivial | omega | (intro hg; simp only [Bool.and_eq_true, Bool.or_eq_true, Bool.not_eq_true', Bool.and_eq_false_iff, Bool.or_eq_false_iff, Bool.not_eq_false', decide_eq_true_eq, decide_eq_false_iff_not, eqNil] at hg; omega) | (simp only [List.length_append, List.length_map, List.length_range, List.length_replicate, List.length_take, List.length_drop, List.length_cons, List.length_nil, List.length_set, List.length_reverse]; omega))
      change Awp _ _ _ _ _ _ _
      -- region 9  law.go:108
      refine awp_r [2, 3, 4, 5, 6, 7] (by rfl) ?_
      simp (decide := true) only [aOps_nil, ev, absV, absS, putD, Slots.put, Slots.get, Slots.keep, if_true, if_false, true_and, ↓ap_move, pop_move, ↓ap_binOp, pop_binOp, isNilC_int, cond_false, pBinX_int, pI_add, ↓ap_assign, pop_assign]
      try simp (disch := omega) only [wrap_i64]
      repeat (with_reducible refine And.intro ?_ ?_; · first | trivial | omega | (intro hg; simp only [Bool.and_eq_true, Bool.or_eq_true, Bool.not_eq_true', Bool.and_eq_false_iff, Bool.or_eq_false_iff, Bool.not_eq_false', decide_eq_true_eq, decide_eq_false_iff_not, eqNil] at hg; omega) | (simp only [List.length_append, List.length_map, List.length_range, List.length_replicate, List.length_take, List.length_drop, List.length_cons, List.length_nil, List.length_set, List.length_reverse]; omega))
      try simp only [thenA_normal]
      refine ⟨(i + 1, b'), rfl, (bufS_store hok' hs').1, ⟨by simp only; omega, (bufS_store hok' hs').2, ?_⟩, by simp only; omega⟩
      simp only
      rw [hc', hc, ← intCells_append, sumZ_succ]
    · try simp only [decide_eq_false_iff_not] at hb3
      have hi' : i = max x.length y.length := by omega
      have hv := leV_sumZ s x y i
      rw [List.take_of_length_le (by omega), List.take_of_length_le (by omega)] at hv
      have hsm : smallZ 20 (sumZ s x y i) := by
        intro j
        rw [sumZ_at]
        have dx := hx.at j
        have dy := hy.at j
        split
        · rcases hs with rfl | rfl <;> omega
        · omega
      have hvl : leV (sumZ s x y i) < 10 ^ (N + 1) := by
        have p1 : (10 : Int) ^ x.length ≤ 10 ^ N := by exact_mod_cast Nat.pow_le_pow_right (show 0 < 10 by decide) lx
        have p2 : (10 : Int) ^ y.length ≤ 10 ^ N := by exact_mod_cast Nat.pow_le_pow_right (show 0 < 10 by decide) ly
        rw [hv, Int.pow_succ]
        rcases hs with rfl | rfl <;> omega
      refine awp_exit ?_
      change Awp _ _ _ _ _ _ _
      -- region 11  law.go:111
      refine awp_rseq [4] (by rfl) fun K hK => ?_
      simp (decide := true) only [ev, putD, Slots.put, Slots.get, if_true, if_false, true_and, ↓ap_loadL, apL_mk, pLoad_agg ag40 sz40, cellsAt, List.getD_cons_zero, List.getD_cons_succ, Nat.zero_add, lv_bool, allLive, Bool.and_true, bufS_rd w₀ hok, bufV_live]
      repeat (with_reducible refine And.intro ?_ ?_; · first | trivial | omega | (intro hg; simp only [Bool.and_eq_true, Bool.or_eq_true, Bool.not_eq_true', Bool.and_eq_false_iff, Bool.or_eq_false_iff, Bool.not_eq_false', decide_eq_true_eq, decide_eq_false_iff_not, eqNil] at hg; omega) | (simp only [List.length_append, List.length_map, List.length_range, List.length_replicate, List.length_take, List.length_drop, List.length_cons, List.length_nil, List.length_set, List.length_reverse]; omega))
      refine aOps_call (by rfl) (by rfl) (c_settled w₀ _ m1 (bufV 1 b) (sumZ s x y i) (holds_buf hok hc (Sub.refl _)) 20 (by decide) (by decide) hsm (N + 1) (by rw [sumZ_length]; omega) (by omega) hvl (by rw [hv]; exact hpos)) fun x11q1 h11q1 hx11q1 => ?_
      obtain ⟨⟨z', o, rfl, hzo, hdo, hvo, hlo⟩, hsub⟩ := hx11q1
      have hlo1 := hzo.live
      refine aOps_store (v := .agg [.bool m1, z']) (by rfl) (by rfl) (hsub _ _ (bufH_at hok ((AHeap.set_ne _ _ ne_6q3_0q2.symm).trans (AHeap.set_same _ _ _)))) sz40 (by rfl) (by rfl) (Nat.le_refl _) (Nat.zero_le _) (scal_big hzo.scal) ?_
      simp only [setAt, AVal.cells, List.length_nil, List.set_cons_zero, List.set_cons_succ, Nat.zero_add]
      simp (decide := true) only [aOps_nil, putD, Slots.put, Slots.keep, if_true, if_false]
      repeat (with_reducible refine And.intro ?_ ?_; · first | trivial | omega | (intro hg; simp only [Bool.and_eq_true, Bool.or_eq_true, Bool.not_eq_true', Bool.and_eq_false_iff, Bool.or_eq_false_iff, Bool.not_eq_false', decide_eq_true_eq, decide_eq_false_iff_not, eqNil] at hg; omega) | (simp only [List.length_append, List.length_map, List.length_range, List.length_replicate, List.length_take, List.length_drop, List.length_cons, List.length_nil, List.length_set, List.length_reverse]; omega))
      apply hK; clear hK K
      refine awp_ret ?_
      try simp only [thenA_ret, inBlockA_ret]
      refine retA_retE (?_) ?_
      · simp (decide := true) only [resPre, resV_cell, Slots.get, if_true, and_true, resV_cell, pLoad_agg ag40 sz40, rd_set, cellsAt, List.getD_cons_zero, List.getD_cons_succ, Nat.zero_add, lv_bool, allLive, Bool.and_true, Bool.true_and, cellsAt, List.getD_cons_zero, List.getD_cons_succ, Nat.zero_add, lv_bool, allLive, Bool.and_true]
        exact hlo1
      simp (decide := true) only [Slots.get, if_true, resOfG_one, resV_cell, pLoad_agg ag40 sz40, rd_set, cellsAt, List.getD_cons_zero, List.getD_cons_succ, Nat.zero_add, lv_bool, allLive, Bool.and_true, Bool.true_and, cellsAt, List.getD_cons_zero, List.getD_cons_succ, Nat.zero_add, lv_bool, allLive, Bool.and_true]
      refine ⟨_, Sub.refl _, ⟨m1, z', o, rfl, hzo.set_bool (hsub _ _ (bufH_at hok ((AHeap.set_ne _ _ ne_6q3_0q2.symm).trans (AHeap.set_same _ _ _)))) _, hdo, by rw [hvo, hv]; exact hsg, hlo⟩, Sub.trans_set (Sub.trans hsb hsub) hf_0q2⟩
end Go.Proofs.YthiiakghjoeikaaGreatDoor

/-
  The statements' big numbers: mul.
  Conditions: none.
-/
namespace Go.Proofs.YthiiakghjoeikaaGreatDoor
open Go.AM
open Go.Proofs
open Go.Dec
open Go.Lib (decDigits)
set_option maxRecDepth 100000

theorem leV_set (r : List Int) (i : Nat) (c : Int) (hi : i < r.length) : leV (r.set i c) = leV r + (c - r.getD i 0) * 10 ^ i := by
  unfold leV
  have e : (r.set i c).reverse = r.reverse.set (r.length - 1 - i) c := by
    apply List.ext_getElem?
    intro j
    by_cases hj : j < r.length
    · rw [List.getElem?_reverse (by rw [List.length_set]; exact hj), List.length_set, List.getElem?_set, List.getElem?_set]
      by_cases e : i = r.length - 1 - j
      · rw [if_pos e, if_pos (by omega), if_pos (by omega), if_pos (by rw [List.length_reverse]; omega)]
      · rw [if_neg e, if_neg (by omega), List.getElem?_reverse hj]
    · rw [List.getElem?_eq_none (by rw [List.length_reverse, List.length_set]; omega), List.getElem?_eq_none (by rw [List.length_set, List.length_reverse]; omega)]
  rw [e, valL_set _ _ _ (by rw [List.length_reverse]; omega), List.length_reverse]
  have e2 : r.length - 1 - (r.length - 1 - i) = i := by omega
  have e3 : r.reverse.getD (r.length - 1 - i) 0 = r.getD i 0 := by
    rw [List.getD, List.getElem?_reverse (by omega), e2]
    rfl
  rw [e2, e3]
theorem leV_rep (n : Nat) : leV (List.replicate n 0) = 0 := by
  have := leV_zeros n []
  rw [List.append_nil] at this
  rw [this]
  simp [leV, valL]
/-- The rows behind i rows and k columns of the table. -/
def rowV (x y : List Int) (i k : Nat) : Int := leV (x.take i) * leV y + x.getD i 0 * 10 ^ i * leV (y.take k)
theorem rowV_col (x y : List Int) (i k : Nat) : rowV x y i (k + 1) = rowV x y i k + x.getD i 0 * y.getD k 0 * 10 ^ (i + k) := by
  unfold rowV
  rw [leV_take, Int.mul_add, ← Int.add_assoc, Int.pow_add]
  congr 1
  generalize x.getD i 0 = a
  generalize y.getD k 0 = b
  generalize (10 : Int) ^ i = p
  generalize (10 : Int) ^ k = q
  simp only [Int.mul_comm, Int.mul_left_comm]
theorem rowV_row (x y : List Int) (i k : Nat) (hk : y.length ≤ k) : rowV x y i k = rowV x y (i + 1) 0 := by
  unfold rowV
  rw [List.take_of_length_le hk, leV_take, Int.add_mul]
  simp [leV, valL]
structure rowOk (x y r : List Int) (i k : Nat) : Prop where
  len : r.length = x.length + y.length
  val : leV r = rowV x y i k
  up : ∀ j : Nat, 0 ≤ r.getD j 0 ∧ r.getD j 0 ≤ 81 * ((i : Int) + 1)
  ahead : ∀ j : Nat, i + k ≤ j → r.getD j 0 ≤ 81 * (i : Int)
theorem rowOk.start (x y : List Int) : rowOk x y (List.replicate (x.length + y.length) 0) 0 0 := by
  have hz : ∀ n j : Nat, (List.replicate n (0 : Int)).getD j 0 = 0 := fun n j => by
    by_cases h : j < n
    · simp [List.getD, h]
    · simp [List.getD, h]
  refine ⟨by simp, by rw [leV_rep]; simp [rowV, leV, valL], fun j => ?_, fun j _ => ?_⟩
  · rw [hz]; omega
  · rw [hz]; omega
theorem rowOk.next {x y r : List Int} {i k : Nat} (h : rowOk x y r i k) (hx : digZ x) (hy : digZ y) (hi : i < x.length) (hk : k < y.length) : rowOk x y (r.set (i + k) (r.getD (i + k) 0 + x.getD i 0 * y.getD k 0)) i (k + 1) := by
  obtain ⟨a0, a9⟩ := hx.at i
  obtain ⟨b0, b9⟩ := hy.at k
  have p0 : 0 ≤ x.getD i 0 * y.getD k 0 := Int.mul_nonneg a0 b0
  have p1 : x.getD i 0 * y.getD k 0 ≤ 9 * 9 := Int.mul_le_mul a9 b9 b0 (by decide)
  have hl := h.len
  refine ⟨by rw [List.length_set]; exact hl, ?_, fun j => ?_, fun j hj => ?_⟩
  · rw [leV_set _ _ _ (by omega), h.val, rowV_col, show ∀ a b : Int, a + b - a = b by intros; omega]
  · by_cases e : i + k = j
    · subst e
      rw [getL_set_self _ _ _ _ (by omega)]
      have := h.ahead (i + k) (Nat.le_refl _)
      have := h.up (i + k)
      omega
    · rw [getL_set_ne _ _ _ _ _ e]
      exact h.up j
  · rw [getL_set_ne _ _ _ _ _ (by omega)]
    exact h.ahead j (by omega)
theorem rowOk.row {x y r : List Int} {i k : Nat} (h : rowOk x y r i k) (hk : y.length ≤ k) : rowOk x y r (i + 1) 0 := by
  refine ⟨h.len, by rw [h.val, rowV_row _ _ _ _ hk], fun j => ?_, fun j _ => ?_⟩
  · have := h.up j
    omega
  · have := h.up j
    omega

theorem bldS (x0 : Bool) (l : AM.Loc) (o n : Nat) (c : AM.Cap) : pBuild Tryz.prog 40 [(0, .bool x0), (1, .slice l o n c)] = ⟨True, .agg [.bool x0, .slice l o n c]⟩ := bld40_0_1 _ _ (of_eq_true (Sc_slice l o n c))
set_option maxHeartbeats 2000000 in
theorem c_mul (w₀ : World) (h : AHeap) (n1 n2 : Bool) (z1 z2 : AVal) (x y : List Int) (hz1 : HoldsZ h z1 x) (hz2 : HoldsZ h z2 y) (hx : digZ x) (hy : digZ y) (hN : x.length + y.length ≤ 10000) :
    ACall Tryz.prog w₀ 22 [.agg [.bool n1, z1], .agg [.bool n2, z2]] h (fun v h' => (∃ z o, v = .agg [.bool (n1 != n2), z] ∧ HoldsZ h' z o ∧ digZ o ∧ leV o = leV x * leV y ∧ o.length ≤ x.length + y.length) ∧ Sub h h') := by
  have hl1 := hz1.live
  have hl2 := hz2.live
  obtain ⟨bx0, bx1⟩ := leV_bound x hx
  obtain ⟨by0, by1⟩ := leV_bound y hy
  have eN : ((x.length : Int) + (y.length : Int)).toNat = x.length + y.length := by omega
  refine acall_intro (n := 58) (rs := [.cell 4 40]) Tryz.func22 rfl rfl rfl rfl (Nat.le_of_ble_eq_true rfl) ?_
  simp only [initSlots]
  -- region 0  law.go:115
  refine awp_rseq [2, 3, 4] (by rfl) fun K hK => ?_
  refine aOps_box (by rfl) (by rfl) (by rfl) fun k0q0 hk0q0 => ?_
  try have hf_0q0 : h k0q0 = none := by first | assumption | (simp only [AHeap.set_none] at hk0q0; simp only [hk0q0])
  skip
  refine aOps_box (by rfl) (by rfl) (by rfl) fun k0q1 hk0q1 => ?_
  have ne_0q1_0q0 : k0q1 ≠ k0q0 := by simp only [AHeap.set_none] at hk0q1; simp only [hk0q1, ne_eq, not_false_eq_true]
  try have hf_0q1 : h k0q1 = none := by first | assumption | (simp only [AHeap.set_none] at hk0q1; simp only [hk0q1])
  skip
  refine aOps_alloc ze40 (cs := [.bool false, .nilSlice]) (by rfl) fun k0q2 hk0q2 => ?_
  have ne_0q2_0q0 : k0q2 ≠ k0q0 := by simp only [AHeap.set_none] at hk0q2; simp only [hk0q2, ne_eq, not_false_eq_true]
  have ne_0q2_0q1 : k0q2 ≠ k0q1 := by simp only [AHeap.set_none] at hk0q2; simp only [hk0q2, ne_eq, not_false_eq_true]
  try have hf_0q2 : h k0q2 = none := by first | assumption | (simp only [AHeap.set_none] at hk0q2; simp only [hk0q2])
  simp (decide := true) only [aOps_nil, ev, putD, Slots.put, Slots.get, Slots.keep, if_true, if_false, AVal.cells, Nat.zero_add]
  repeat (with_reducible refine And.intro ?_ ?_; · first | trivial | omega | (intro hg; simp only [Bool.and_eq_true, Bool.or_eq_true, Bool.not_eq_true', Bool.and_eq_false_iff, Bool.or_eq_false_iff, Bool.not_eq_false', decide_eq_true_eq, decide_eq_false_iff_not, eqNil] at hg; omega) | (simp only [List.length_append, List.length_map, List.length_range, List.length_replicate, List.length_take, List.length_drop, List.length_cons, List.length_nil, List.length_set, List.length_reverse]; omega))
  apply hK; clear hK K
  -- region 1  law.go:116
  refine awp_dseq_F 15 [] [2, 3, 4, 5] mixed (by kernel_rfl) (by rfl) fun K hK => ?_
  simp only [List.take_succ_cons, List.take_zero, List.drop_succ_cons, List.drop_zero]
  simp (decide := true) only [ev, putD, Slots.put, Slots.get, if_true, if_false, true_and, ↓fp_fieldAddr, pop_fieldAddr, fa40_0, ↓fp_load, pop_load, pLoad_one ag4, ↓fp_binOp, pop_binOp, isNilC_tmp, cond_false, pBinX_bne, Tryz.underlying4, fa40_1, pLoad_one ag38, ↓fp_len, pop_len, pBinX_int, pI_add, rd_ne', ne_eq, not_false_eq_true, ne_0q1_0q0.symm, ne_0q2_0q0.symm, ne_0q2_0q1.symm, rd_any, List.getD_cons_zero, List.getD_cons_succ, Nat.zero_add, lv_bool, hl1, hl2, hz1.len Tryz.underlying38, hz2.len Tryz.underlying38]
  try simp (disch := omega) only [wrap_i64]
  repeat (with_reducible refine And.intro ?_ ?_; · first | trivial | omega | (intro hg; simp only [Bool.and_eq_true, Bool.or_eq_true, Bool.not_eq_true', Bool.and_eq_false_iff, Bool.or_eq_false_iff, Bool.not_eq_false', decide_eq_true_eq, decide_eq_false_iff_not, eqNil] at hg; omega) | (simp only [List.length_append, List.length_map, List.length_range, List.length_replicate, List.length_take, List.length_drop, List.length_cons, List.length_nil, List.length_set, List.length_reverse]; omega))
  refine fOps_lay (by rfl) ?_
  refine aOps_makeInts Tryz.underlying38 sz3 by3 ze3 (by rfl) (by rfl) (by omega) (by omega) fun k1 hk1 => ?_
  have ne_1_0q0 : k1 ≠ k0q0 := by simp only [AHeap.set_none] at hk1; simp only [hk1, ne_eq, not_false_eq_true]
  have ne_1_0q1 : k1 ≠ k0q1 := by simp only [AHeap.set_none] at hk1; simp only [hk1, ne_eq, not_false_eq_true]
  have ne_1_0q2 : k1 ≠ k0q2 := by simp only [AHeap.set_none] at hk1; simp only [hk1, ne_eq, not_false_eq_true]
  try have hf_1 : h k1 = none := by first | assumption | (simp only [AHeap.set_none] at hk1; simp only [hk1])
  rw [aOps_nil]
  simp (decide := true) only [ev, absV, absS, putD, Slots.put, Slots.get, if_true, if_false, true_and, ↓fp_build, ↓pop_buildL, bld40_0_1, evP, List.map_cons, List.map_nil, Sc_slice, eN]
  repeat (with_reducible refine And.intro ?_ ?_; · first | trivial | omega | (intro hg; simp only [Bool.and_eq_true, Bool.or_eq_true, Bool.not_eq_true', Bool.and_eq_false_iff, Bool.or_eq_false_iff, Bool.not_eq_false', decide_eq_true_eq, decide_eq_false_iff_not, eqNil] at hg; omega) | (simp only [List.length_append, List.length_map, List.length_range, List.length_replicate, List.length_take, List.length_drop, List.length_cons, List.length_nil, List.length_set, List.length_reverse]; omega))
  refine fOps_lay (by rfl) ?_
  refine aOps_alloc ze40 (cs := [.bool false, .nilSlice]) (by rfl) fun k1q14 hk1q14 => ?_
  have ne_1q14_0q0 : k1q14 ≠ k0q0 := by simp only [AHeap.set_none] at hk1q14; simp only [hk1q14, ne_eq, not_false_eq_true]
  have ne_1q14_0q1 : k1q14 ≠ k0q1 := by simp only [AHeap.set_none] at hk1q14; simp only [hk1q14, ne_eq, not_false_eq_true]
  have ne_1q14_0q2 : k1q14 ≠ k0q2 := by simp only [AHeap.set_none] at hk1q14; simp only [hk1q14, ne_eq, not_false_eq_true]
  have ne_1q14_1 : k1q14 ≠ k1 := by simp only [AHeap.set_none] at hk1q14; simp only [hk1q14, ne_eq, not_false_eq_true]
  try have hf_1q14 : h k1q14 = none := by first | assumption | (simp only [AHeap.set_none] at hk1q14; simp only [hk1q14])
  rw [aOps_nil]
  repeat (with_reducible refine And.intro ?_ ?_; · first | trivial | omega | (intro hg; simp only [Bool.and_eq_true, Bool.or_eq_true, Bool.not_eq_true', Bool.and_eq_false_iff, Bool.or_eq_false_iff, Bool.not_eq_false', decide_eq_true_eq, decide_eq_false_iff_not, eqNil] at hg; omega) | (simp only [List.length_append, List.length_map, List.length_range, List.length_replicate, List.length_take, List.length_drop, List.length_cons, List.length_nil, List.length_set, List.length_reverse]; omega))
  try simp only [fOps_nil]
  refine aOps_store (by rfl) (by rfl) (by repeat (first | exact AHeap.set_same _ _ _ | assumption | refine (AHeap.set_ne _ _ (by first | assumption | exact Ne.symm (by assumption))).trans ?_)) sz40 (by rfl) (by rfl) (by first | exact Nat.le_refl _ | decide | (simp; done) | (simp; omega)) (Nat.zero_le _) (by rfl) ?_
  simp only [AHeap.set_set, AVal.cells]
  simp (decide := true) only [aOps_nil, ev, putD, Slots.put, Slots.get, Slots.keep, if_true, if_false, setAt, List.set_cons_zero, List.set_cons_succ, Nat.zero_add]
  repeat (with_reducible refine And.intro ?_ ?_; · first | trivial | omega | (intro hg; simp only [Bool.and_eq_true, Bool.or_eq_true, Bool.not_eq_true', Bool.and_eq_false_iff, Bool.or_eq_false_iff, Bool.not_eq_false', decide_eq_true_eq, decide_eq_false_iff_not, eqNil] at hg; omega) | (simp only [List.length_append, List.length_map, List.length_range, List.length_replicate, List.length_take, List.length_drop, List.length_cons, List.length_nil, List.length_set, List.length_reverse]; omega))
  apply hK; clear hK K
  refine awp_seq ?_
  -- region 2  law.go:117
  refine awp_rseq [2, 3, 4, 5, 6] (by rfl) fun K hK => ?_
  simp (decide := true) only [aOps_nil, ev, absV, absS, putD, Slots.put, Slots.keep, if_true, if_false, true_and, ↓ap_assign, pop_assign]
  repeat (with_reducible refine And.intro ?_ ?_; · first | trivial | omega | (intro hg; simp only [Bool.and_eq_true, Bool.or_eq_true, Bool.not_eq_true', Bool.and_eq_false_iff, Bool.or_eq_false_iff, Bool.not_eq_false', decide_eq_true_eq, decide_eq_false_iff_not, eqNil] at hg; omega) | (simp only [List.length_append, List.length_map, List.length_range, List.length_replicate, List.length_take, List.length_drop, List.length_cons, List.length_nil, List.length_set, List.length_reverse]; omega))
  apply hK; clear hK K
  refine awp_block ?_
  refine awp_loopG [2, 3, 4, 5, 6] (fun g : Nat × List Int => [(2, .ptr (.own k0q0) 0), (3, .ptr (.own k0q1) 0), (4, .ptr (.own k0q2) 0), (5, .ptr (.own k1q14) 0), (6, .int .i64 g.1)]) (fun g : Nat × List Int => (((((h.set k0q0 ⟨[.bool n1, z1], 0⟩).set k0q1 ⟨[.bool n2, z2], 0⟩).set k0q2 ⟨[.bool false, .nilSlice], 0⟩).set k1 ⟨intCells g.2, 0⟩).set k1q14 ⟨[.bool (n1 != n2), .slice (.own k1) 0 (x.length + y.length) (.exact (x.length + y.length))], 0⟩)) (fun g : Nat × List Int => rowOk x y g.2 g.1 0 ∧ g.1 ≤ x.length) (fun g : Nat × List Int => x.length - g.1) (0, List.replicate (x.length + y.length) 0) (by rfl) (Sub.refl _) ⟨rowOk.start x y, Nat.zero_le _⟩ ?_
  rintro ⟨i, r⟩ ⟨hr, hi⟩
  simp only at hr hi ⊢
  refine awp_seq ?_
  -- region 3  law.go:117
  refine awp_rseq [2, 3, 4, 5, 6, 26] (by rfl) fun K hK => ?_
  simp (decide := true) only [aOps_nil, ev, putD, Slots.put, Slots.get, Slots.keep, if_true, if_false, true_and, ↓ap_move, pop_move, ↓ap_fieldAddr, pop_fieldAddr, fa40_1, ↓ap_loadL, apL_mk, pLoad_one ag38, ↓ap_len, pop_len, ↓ap_binOp, pop_binOp, isNilC_tmp, cond_false, pBinX_int, pI_lss, rd_ne', ne_eq, not_false_eq_true, ne_0q1_0q0.symm, ne_0q2_0q0.symm, ne_1_0q0.symm, ne_1q14_0q0.symm, rd_any, List.getD_cons_zero, List.getD_cons_succ, Nat.zero_add, hl1, hz1.len Tryz.underlying38]
  repeat (with_reducible refine And.intro ?_ ?_; · first | trivial | omega | (intro hg; simp only [Bool.and_eq_true, Bool.or_eq_true, Bool.not_eq_true', Bool.and_eq_false_iff, Bool.or_eq_false_iff, Bool.not_eq_false', decide_eq_true_eq, decide_eq_false_iff_not, eqNil] at hg; omega) | (simp only [List.length_append, List.length_map, List.length_range, List.length_replicate, List.length_take, List.length_drop, List.length_cons, List.length_nil, List.length_set, List.length_reverse]; omega))
  apply hK; clear hK K
  refine awp_cond (b := _) rfl (fun hb1 => ?_) (fun hb1 => ?_)
  · try simp only [decide_eq_true_eq] at hb1
    obtain ⟨kx, cx, ez1, hkx⟩ := hz1.resolve_left (fun e => by rw [e.2] at hb1; simp at hb1; omega)
    have nx0 : kx ≠ k0q0 := fun e => by rw [e, hf_0q0] at hkx; cases hkx
    have nx1 : kx ≠ k0q1 := fun e => by rw [e, hf_0q1] at hkx; cases hkx
    have nx2 : kx ≠ k0q2 := fun e => by rw [e, hf_0q2] at hkx; cases hkx
    have nx3 : kx ≠ k1 := fun e => by rw [e, hf_1] at hkx; cases hkx
    have nx4 : kx ≠ k1q14 := fun e => by rw [e, hf_1q14] at hkx; cases hkx
    have ix : ∀ v, pIndexAddr Tryz.prog 38 z1 v = pIndexAddr Tryz.prog 38 (.slice (.own kx) 0 x.length cx) v := fun v => by rw [ez1]
    have gx : (intCells x).getD i .dead = .int .i64 (x.getD i 0) := intCells_getD (by omega)
    refine awp_skip ?_
    change Awp _ _ _ _ _ _ _
    refine awp_seq ?_
    refine awp_block ?_
    -- region 5  law.go:118
    refine awp_rseq [2, 3, 4, 5, 6, 7] (by rfl) fun K hK => ?_
    simp (decide := true) only [aOps_nil, ev, absV, absS, putD, Slots.put, Slots.keep, if_true, if_false, true_and, ↓ap_assign, pop_assign]
    repeat (with_reducible refine And.intro ?_ ?_; · first | trivial | omega | (intro hg; simp only [Bool.and_eq_true, Bool.or_eq_true, Bool.not_eq_true', Bool.and_eq_false_iff, Bool.or_eq_false_iff, Bool.not_eq_false', decide_eq_true_eq, decide_eq_false_iff_not, eqNil] at hg; omega) | (simp only [List.length_append, List.length_map, List.length_range, List.length_replicate, List.length_take, List.length_drop, List.length_cons, List.length_nil, List.length_set, List.length_reverse]; omega))
    apply hK; clear hK K
    refine awp_block ?_
    refine awp_loopG [2, 3, 4, 5, 6, 7] (fun g : Nat × List Int => [(2, .ptr (.own k0q0) 0), (3, .ptr (.own k0q1) 0), (4, .ptr (.own k0q2) 0), (5, .ptr (.own k1q14) 0), (6, .int .i64 i), (7, .int .i64 g.1)]) (fun g : Nat × List Int => (((((h.set k0q0 ⟨[.bool n1, z1], 0⟩).set k0q1 ⟨[.bool n2, z2], 0⟩).set k0q2 ⟨[.bool false, .nilSlice], 0⟩).set k1 ⟨intCells g.2, 0⟩).set k1q14 ⟨[.bool (n1 != n2), .slice (.own k1) 0 (x.length + y.length) (.exact (x.length + y.length))], 0⟩)) (fun g : Nat × List Int => rowOk x y g.2 i g.1 ∧ g.1 ≤ y.length) (fun g : Nat × List Int => y.length - g.1) (0, r) (by rfl) (Sub.refl _) ⟨hr, Nat.zero_le _⟩ ?_
    clear hr
    rintro ⟨k, r⟩ ⟨hr, hk⟩
    simp only at hr hk ⊢
    refine awp_seq ?_
    -- region 6  law.go:118
    refine awp_rseq [2, 3, 4, 5, 6, 7, 33] (by rfl) fun K hK => ?_
    simp (decide := true) only [aOps_nil, ev, putD, Slots.put, Slots.get, Slots.keep, if_true, if_false, true_and, ↓ap_move, pop_move, ↓ap_fieldAddr, pop_fieldAddr, fa40_1, ↓ap_loadL, apL_mk, pLoad_one ag38, ↓ap_len, pop_len, ↓ap_binOp, pop_binOp, isNilC_tmp, cond_false, pBinX_int, pI_lss, rd_ne', ne_eq, not_false_eq_true, ne_0q2_0q1.symm, ne_1_0q1.symm, ne_1q14_0q1.symm, rd_any, List.getD_cons_zero, List.getD_cons_succ, Nat.zero_add, hl2, hz2.len Tryz.underlying38]
    repeat (with_reducible refine And.intro ?_ ?_; · first | trivial | omega | (intro hg; simp only [Bool.and_eq_true, Bool.or_eq_true, Bool.not_eq_true', Bool.and_eq_false_iff, Bool.or_eq_false_iff, Bool.not_eq_false', decide_eq_true_eq, decide_eq_false_iff_not, eqNil] at hg; omega) | (simp only [List.length_append, List.length_map, List.length_range, List.length_replicate, List.length_take, List.length_drop, List.length_cons, List.length_nil, List.length_set, List.length_reverse]; omega))
    apply hK; clear hK K
    refine awp_cond (b := _) rfl (fun hb2 => ?_) (fun hb2 => ?_)
    · try simp only [decide_eq_true_eq] at hb2
      obtain ⟨ky, cy, ez2, hky⟩ := hz2.resolve_left (fun e => by rw [e.2] at hb2; simp at hb2; omega)
      have ny0 : ky ≠ k0q0 := fun e => by rw [e, hf_0q0] at hky; cases hky
      have ny1 : ky ≠ k0q1 := fun e => by rw [e, hf_0q1] at hky; cases hky
      have ny2 : ky ≠ k0q2 := fun e => by rw [e, hf_0q2] at hky; cases hky
      have ny3 : ky ≠ k1 := fun e => by rw [e, hf_1] at hky; cases hky
      have ny4 : ky ≠ k1q14 := fun e => by rw [e, hf_1q14] at hky; cases hky
      have iy : ∀ v, pIndexAddr Tryz.prog 38 z2 v = pIndexAddr Tryz.prog 38 (.slice (.own ky) 0 y.length cy) v := fun v => by rw [ez2]
      have gy : (intCells y).getD k .dead = .int .i64 (y.getD k 0) := intCells_getD (by omega)
      have hrl := hr.len
      have gr : (intCells r).getD (i + k) .dead = .int .i64 (r.getD (i + k) 0) := intCells_getD (by omega)
      have eik : ((i : Int) + (k : Int)).toNat = i + k := by omega
      obtain ⟨a0, a9⟩ := hx.at i
      obtain ⟨b0, b9⟩ := hy.at k
      have p0 : 0 ≤ x.getD i 0 * y.getD k 0 := Int.mul_nonneg a0 b0
      have p1 : x.getD i 0 * y.getD k 0 ≤ 9 * 9 := Int.mul_le_mul a9 b9 b0 (by decide)
      have hup := hr.up (i + k)
      have exy : IntKind.i64.wrap (x.getD i 0 * y.getD k 0) = x.getD i 0 * y.getD k 0 := wrap_i64 (by omega) (by omega)
      have exs : IntKind.i64.wrap (r.getD (i + k) 0 + x.getD i 0 * y.getD k 0) = r.getD (i + k) 0 + x.getD i 0 * y.getD k 0 := wrap_i64 (by omega) (by omega)
      refine awp_skip ?_
      change Awp _ _ _ _ _ _ _
      refine awp_seq ?_
      refine awp_block ?_
      -- region 8  law.go:119
      refine awp_draw_tail 20 mixed (by kernel_rfl) (by rfl) (by rfl) ?_
      simp (decide := true) only [ev, putD, Slots.put, Slots.get, if_true, if_false, true_and, ↓ap_fieldAddr, pop_fieldAddr, fa40_1, ↓ap_loadL, apL_mk, pLoad_one ag38, ↓ap_move, pop_move, ↓ap_binOp, pop_binOp, isNilC_tmp, cond_false, pBinX_int, pI_add, rd_any, List.getD_cons_zero, List.getD_cons_succ, Nat.zero_add, lv_slice, Nat.zero_add]
      try simp (disch := omega) only [wrap_i64]
      try simp (decide := true) only [ev, putD, Slots.put, Slots.get, if_true, if_false, true_and, ↓ap_indexAddrL, apL_mk, pIndexAddr_slice Tryz.underlying38 sz3, ↓ap_loadL, pLoad_one ag3, ↓ap_fieldAddr, pop_fieldAddr, fa40_1, pLoad_one ag38, ↓ap_move, pop_move, ↓ap_binOp, pop_binOp, isNilC_tmp, cond_false, pBinX_int, pI_mul, pI_add, rd_ne', ne_eq, not_false_eq_true, ne_0q1_0q0.symm, ne_0q2_0q0.symm, ne_0q2_0q1.symm, ne_1_0q0.symm, ne_1_0q1.symm, ne_1q14_0q0.symm, ne_1q14_0q1.symm, ne_1q14_1.symm, rd_any, List.getD_cons_zero, List.getD_cons_succ, Nat.zero_add, lv_int, hl1, hl2, ix, iy, eik, gx, gy, gr, exy, exs, Int.toNat_natCast, Nat.mul_one, Nat.zero_add, nx0, nx1, nx2, nx3, nx4, ny0, ny1, ny2, ny3, ny4, rd_own w₀ hkx, rd_own w₀ hky]
      try simp (disch := omega) only [wrap_i64, wrap_u8]
      try simp (decide := true) only [aOps_nil, vOps_nil, fOps_nil, kOps_nil, ev, absV, absS, putD, Slots.put, Slots.get, Slots.keep, if_true, if_false, List.contains_cons, List.contains_nil, true_and, and_true, ↓ap_indexAddrL, apL_mk, pIndexAddr_slice Tryz.underlying38 sz3, rd_ne', ne_eq, not_false_eq_true, ne_0q1_0q0, ne_0q1_0q0.symm, ne_0q2_0q0, ne_0q2_0q0.symm, ne_0q2_0q1, ne_0q2_0q1.symm, ne_1_0q0, ne_1_0q0.symm, ne_1_0q1, ne_1_0q1.symm, ne_1_0q2, ne_1_0q2.symm, ne_1q14_0q0, ne_1q14_0q0.symm, ne_1q14_0q1, ne_1q14_0q1.symm, ne_1q14_0q2, ne_1q14_0q2.symm, ne_1q14_1, ne_1q14_1.symm, rd_any, AVal.cells, setAt, List.set_cons_zero, List.set_cons_succ, cellsAt, List.getD_cons_zero, List.getD_cons_succ, Nat.zero_add, Nat.reduceAdd, lv_bool, lv_int, lv_str, lv_nilPtr, lv_ptr, lv_nilSlice, lv_slice, lv_nilFunc, lv_func, lv_nilIface, lv_iface, lv_nilMap, lv_agg, lv_tuple, allLive, Bool.and_true, decA, hl1, hl2, hz1.len Tryz.underlying38, hz2.len Tryz.underlying38, ix, iy, eik, gx, gy, gr, exy, exs, Int.toNat_natCast, Nat.mul_one, Nat.zero_add, nx0, nx1, nx2, nx3, nx4, ny0, ny1, ny2, ny3, ny4, rd_own w₀ hkx, rd_own w₀ hky]
      repeat (with_reducible refine And.intro ?_ ?_; · first | trivial | omega | (intro hg; simp only [Bool.and_eq_true, Bool.or_eq_true, Bool.not_eq_true', Bool.and_eq_false_iff, Bool.or_eq_false_iff, Bool.not_eq_false', decide_eq_true_eq, decide_eq_false_iff_not, eqNil] at hg; omega) | (simp only [List.length_append, List.length_map, List.length_range, List.length_replicate, List.length_take, List.length_drop, List.length_cons, List.length_nil, List.length_set, List.length_reverse]; omega))
      refine aOps_store (v := .int .i64 (r.getD (i + k) 0 + x.getD i 0 * y.getD k 0)) (by rfl) (by rfl) ((AHeap.set_ne _ _ ne_1q14_1.symm).trans (AHeap.set_same _ _ _)) sz3 (by rfl) (by rfl) (by rw [intCells_length]; omega) (Nat.zero_le _) (by rfl) ?_
      simp only [AVal.cells]
      rw [setAt_intCells, AHeap.set_comm _ _ _ ne_1q14_1.symm, AHeap.set_set]
      simp (decide := true) only [aOps_nil, putD]
      repeat (with_reducible refine And.intro ?_ ?_; · first | trivial | omega | (intro hg; simp only [Bool.and_eq_true, Bool.or_eq_true, Bool.not_eq_true', Bool.and_eq_false_iff, Bool.or_eq_false_iff, Bool.not_eq_false', decide_eq_true_eq, decide_eq_false_iff_not, eqNil] at hg; omega) | (simp only [List.length_append, List.length_map, List.length_range, List.length_replicate, List.length_take, List.length_drop, List.length_cons, List.length_nil, List.length_set, List.length_reverse]; omega))
      change Awp _ _ _ _ _ _ _
      -- region 7  law.go:118
      refine awp_r [2, 3, 4, 5, 6, 7] (by rfl) ?_
      simp (decide := true) only [aOps_nil, ev, absV, absS, putD, Slots.put, Slots.get, Slots.keep, if_true, if_false, true_and, ↓ap_move, pop_move, ↓ap_binOp, pop_binOp, isNilC_int, cond_false, pBinX_int, pI_add, ↓ap_assign, pop_assign]
      try simp (disch := omega) only [wrap_i64]
      repeat (with_reducible refine And.intro ?_ ?_; · first | trivial | omega | (intro hg; simp only [Bool.and_eq_true, Bool.or_eq_true, Bool.not_eq_true', Bool.and_eq_false_iff, Bool.or_eq_false_iff, Bool.not_eq_false', decide_eq_true_eq, decide_eq_false_iff_not, eqNil] at hg; omega) | (simp only [List.length_append, List.length_map, List.length_range, List.length_replicate, List.length_take, List.length_drop, List.length_cons, List.length_nil, List.length_set, List.length_reverse]; omega))
      try simp only [thenA_normal]
      refine ⟨(k + 1, r.set (i + k) (r.getD (i + k) 0 + x.getD i 0 * y.getD k 0)), rfl, ?_, ⟨hr.next hx hy (by omega) (by omega), by simp only; omega⟩, by simp only; omega⟩
      exact Sub.refl _
    · try simp only [decide_eq_false_iff_not] at hb2
      refine awp_exit ?_
      change Awp _ _ _ _ _ _ _
      -- region 4  law.go:117
      refine awp_r [2, 3, 4, 5, 6] (by rfl) ?_
      simp (decide := true) only [aOps_nil, ev, absV, absS, putD, Slots.put, Slots.get, Slots.keep, if_true, if_false, true_and, ↓ap_move, pop_move, ↓ap_binOp, pop_binOp, isNilC_int, cond_false, pBinX_int, pI_add, ↓ap_assign, pop_assign]
      try simp (disch := omega) only [wrap_i64]
      repeat (with_reducible refine And.intro ?_ ?_; · first | trivial | omega | (intro hg; simp only [Bool.and_eq_true, Bool.or_eq_true, Bool.not_eq_true', Bool.and_eq_false_iff, Bool.or_eq_false_iff, Bool.not_eq_false', decide_eq_true_eq, decide_eq_false_iff_not, eqNil] at hg; omega) | (simp only [List.length_append, List.length_map, List.length_range, List.length_replicate, List.length_take, List.length_drop, List.length_cons, List.length_nil, List.length_set, List.length_reverse]; omega))
      try simp only [thenA_normal]
      refine ⟨(i + 1, r), rfl, Sub.refl _, ⟨hr.row (by omega), by simp only; omega⟩, by simp only; omega⟩
  · try simp only [decide_eq_false_iff_not] at hb1
    have hv : leV r = leV x * leV y := by
      rw [hr.val, show i = x.length by omega]
      unfold rowV
      rw [List.take_of_length_le (Nat.le_refl _)]
      simp [leV, valL]
    have hvl : leV r < 10 ^ (x.length + y.length) := by
      rw [hv, Int.pow_add]
      have h1 : leV x * leV y ≤ leV x * 10 ^ y.length := Int.mul_le_mul_of_nonneg_left (by omega) bx0
      have h2 : leV x * 10 ^ y.length < 10 ^ x.length * 10 ^ y.length := Int.mul_lt_mul_of_pos_right bx1 (Int.pow_pos (by decide))
      omega
    have hsm : smallZ 1000000 r := fun j => by
      have := hr.up j
      omega
    refine awp_exit ?_
    change Awp _ _ _ _ _ _ _
    -- region 9  law.go:122
    refine awp_rseq [4] (by rfl) fun K hK => ?_
    simp (decide := true) only [ev, putD, Slots.put, Slots.get, if_true, if_false, true_and, ↓ap_loadL, apL_mk, pLoad_agg ag40 sz40, rd_any, cellsAt, List.getD_cons_zero, List.getD_cons_succ, Nat.zero_add, lv_bool, lv_slice, allLive, Bool.and_true]
    repeat (with_reducible refine And.intro ?_ ?_; · first | trivial | omega | (intro hg; simp only [Bool.and_eq_true, Bool.or_eq_true, Bool.not_eq_true', Bool.and_eq_false_iff, Bool.or_eq_false_iff, Bool.not_eq_false', decide_eq_true_eq, decide_eq_false_iff_not, eqNil] at hg; omega) | (simp only [List.length_append, List.length_map, List.length_range, List.length_replicate, List.length_take, List.length_drop, List.length_cons, List.length_nil, List.length_set, List.length_reverse]; omega))
    refine aOps_call (by rfl) (by rfl) (c_settled w₀ _ (n1 != n2) (.slice (.own k1) 0 (x.length + y.length) (.exact (x.length + y.length))) r (.inr ⟨k1, .exact (x.length + y.length), by rw [hr.len], (AHeap.set_ne _ _ ne_1q14_1.symm).trans (AHeap.set_same _ _ _)⟩) 1000000 (by decide) (by decide) hsm (x.length + y.length) (by rw [hr.len]; exact Nat.le_refl _) (by omega) hvl (by rw [hv]; exact Int.mul_nonneg bx0 by0)) fun x9q1 h9q1 hx9q1 => ?_
    obtain ⟨⟨z', o, rfl, hzo, hdo, hvo, hlo⟩, hsub⟩ := hx9q1
    have hlo1 := hzo.live
    refine aOps_store (v := .agg [.bool (n1 != n2), z']) (by rfl) (by rfl) (hsub _ _ ((AHeap.set_ne _ _ ne_1q14_0q2.symm).trans ((AHeap.set_ne _ _ ne_1_0q2.symm).trans (AHeap.set_same _ _ _)))) sz40 (by rfl) (by rfl) (Nat.le_refl _) (Nat.zero_le _) (scal_big hzo.scal) ?_
    simp only [setAt, AVal.cells, List.length_nil, List.set_cons_zero, List.set_cons_succ, Nat.zero_add]
    simp (decide := true) only [aOps_nil, putD, Slots.put, Slots.keep, if_true, if_false]
    repeat (with_reducible refine And.intro ?_ ?_; · first | trivial | omega | (intro hg; simp only [Bool.and_eq_true, Bool.or_eq_true, Bool.not_eq_true', Bool.and_eq_false_iff, Bool.or_eq_false_iff, Bool.not_eq_false', decide_eq_true_eq, decide_eq_false_iff_not, eqNil] at hg; omega) | (simp only [List.length_append, List.length_map, List.length_range, List.length_replicate, List.length_take, List.length_drop, List.length_cons, List.length_nil, List.length_set, List.length_reverse]; omega))
    apply hK; clear hK K
    refine awp_ret ?_
    try simp only [thenA_ret, inBlockA_ret]
    refine retA_retE (?_) ?_
    · simp (decide := true) only [resPre, resV_cell, Slots.get, if_true, and_true, resV_cell, pLoad_agg ag40 sz40, rd_set, cellsAt, List.getD_cons_zero, List.getD_cons_succ, Nat.zero_add, lv_bool, allLive, Bool.and_true, Bool.true_and, cellsAt, List.getD_cons_zero, List.getD_cons_succ, Nat.zero_add, lv_bool, allLive, Bool.and_true]
      exact hlo1
    simp (decide := true) only [Slots.get, if_true, resOfG_one, resV_cell, pLoad_agg ag40 sz40, rd_set, cellsAt, List.getD_cons_zero, List.getD_cons_succ, Nat.zero_add, lv_bool, allLive, Bool.and_true, Bool.true_and, cellsAt, List.getD_cons_zero, List.getD_cons_succ, Nat.zero_add, lv_bool, allLive, Bool.and_true]
    refine ⟨_, Sub.refl _, ⟨z', o, rfl, hzo.set_bool (hsub _ _ ((AHeap.set_ne _ _ ne_1q14_0q2.symm).trans ((AHeap.set_ne _ _ ne_1_0q2.symm).trans (AHeap.set_same _ _ _)))) _, hdo, by rw [hvo, hv], hlo⟩, Sub.trans_set (Sub.trans ?_ hsub) hf_0q2⟩
    exact (by repeat (first | exact Sub.refl _ | refine Sub.trans_set ?_ (by assumption)))
end Go.Proofs.YthiiakghjoeikaaGreatDoor

