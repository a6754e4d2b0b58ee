/-
  Texts of this proof, joined: DcZ, DdA, AmY, LnG, LnH, AmZ, BmA.
  Conditions: none.
-/
import Derived.Test.YthiiakghjoeikaaGreatDoorQe
import Derived.Test.YthiiakghjoeikaaGreatDoorQc
import Derived.Scope
set_option linter.unusedSimpArgs false
set_option linter.unnecessarySimpa false
set_option linter.unusedVariables false
/-
  The statements' big numbers: add.
  Conditions: none.
-/
namespace Go.Proofs.YthiiakghjoeikaaGreatDoor
open Go.AM
open Go.Proofs
open Go.Dec
open Go.Lib (decDigits)
set_option maxRecDepth 100000

theorem HoldsZ.set_bool {h : AHeap} {z : AVal} {zs : List Int} (hz : HoldsZ h z zs) {j : Nat} {n : Bool} {cs : List AVal} {f : Nat} (hj : h j = some ⟨.bool n :: cs, f⟩) (X : Blk) : HoldsZ (h.set j X) z zs := by
  rcases hz with e | ⟨k, c, e1, e2⟩
  · exact .inl e
  · refine .inr ⟨k, c, e1, ?_⟩
    have hne : k ≠ j := by
      rintro rfl
      rw [e2] at hj
      have hc := congrArg Blk.cells (Option.some.inj hj)
      simp only [intCells] at hc
      cases zs with
      | nil => cases hc
      | cons a b => cases hc
    rw [AHeap.set_ne _ _ hne]
    exact e2
theorem HoldsZ.scal {h : AHeap} {z : AVal} {zs : List Int} (hz : HoldsZ h z zs) : z.scal = true := by
  rcases hz with ⟨rfl, rfl⟩ | ⟨k, c, rfl, _⟩ <;> rfl
theorem scal_big {n : Bool} {z : AVal} (h : z.scal = true) : allScal (AVal.agg [.bool n, z]).cells = true := by
  show ((AVal.bool n).scal && (z.scal && true)) = true
  rw [h]
  rfl
theorem swap_heap (h : AHeap) {a b c : Nat} (ab : b ≠ a) (ac : c ≠ a) (bc : c ≠ b) (X Y Z X' Y' : Blk) : ((((h.set a X).set b Y).set c Z).set a X').set b Y' = ((h.set a X').set b Y').set c Z := by
  funext j
  simp only [AHeap.set]
  by_cases e1 : j = a
  · subst e1; simp [ab.symm, ac.symm]
  · by_cases e2 : j = b
    · subst e2; simp [bc.symm]
    · simp [e1, e2]
def sumZ (s : Int) (x y : List Int) (n : Nat) : List Int := (List.range n).map fun j => x.getD j 0 + s * y.getD j 0
theorem sumZ_succ (s : Int) (x y : List Int) (n : Nat) : sumZ s x y (n + 1) = sumZ s x y n ++ [x.getD n 0 + s * y.getD n 0] := by simp [sumZ, List.range_succ]
theorem sumZ_length (s : Int) (x y : List Int) (n : Nat) : (sumZ s x y n).length = n := by simp [sumZ]
theorem leV_sumZ (s : Int) (x y : List Int) : ∀ n : Nat, leV (sumZ s x y n) = leV (x.take n) + s * leV (y.take n)
  | 0 => by simp [sumZ, leV, valL]
  | n + 1 => by
    rw [sumZ_succ, leV_snoc, sumZ_length, leV_sumZ s x y n, leV_take, leV_take, Int.mul_add, Int.add_mul]
    have : s * (y.getD n 0 * 10 ^ n) = s * y.getD n 0 * 10 ^ n := by rw [Int.mul_assoc]
    omega
theorem sumZ_at (s : Int) (x y : List Int) (n i : Nat) : (sumZ s x y n).getD i 0 = if i < n then x.getD i 0 + s * y.getD i 0 else 0 := by
  unfold sumZ
  split
  · rename_i h
    simp [List.getD, h]
  · rename_i h
    simp [List.getD, h]
/-- The sign and the value of a sum. -/
theorem sum_sign {n1 n2 : Bool} {a b : Int} : (n1 = n2 → sgV n1 (a + 1 * b) = sgV n1 a + sgV n2 b) ∧ (n1 ≠ n2 → sgV n1 (a + -1 * b) = sgV n1 a + sgV n2 b ∧ sgV n2 (b + -1 * a) = sgV n1 a + sgV n2 b) := by
  cases n1 <;> cases n2 <;> simp [sgV] <;> omega

structure AddG where
  s : Int
  m1 : Bool
  w1 : AVal
  x : List Int
  m2 : Bool
  w2 : AVal
  y : List Int
def AddG.ok (h : AHeap) (N : Nat) (t : Int) (g : AddG) : Prop := HoldsZ h g.w1 g.x ∧ HoldsZ h g.w2 g.y ∧ digZ g.x ∧ digZ g.y ∧ g.x.length ≤ N ∧ g.y.length ≤ N ∧ (g.s = 1 ∨ g.s = -1) ∧ 0 ≤ leV g.x + g.s * leV g.y ∧ sgV g.m1 (leV g.x + g.s * leV g.y) = t
set_option maxHeartbeats 2000000 in
theorem c_add (w₀ : World) (h : AHeap) (n1 n2 : Bool) (z1 z2 : AVal) (x y : List Int) (hz1 : HoldsZ h z1 x) (hz2 : HoldsZ h z2 y) (hx : digZ x) (hy : digZ y) (N : Nat) (hN : N ≤ 10000) (lx : x.length ≤ N) (ly : y.length ≤ N) :
    ACall Tryz.prog w₀ 29 [.agg [.bool n1, z1], .agg [.bool n2, z2]] h (fun v h' => (∃ n z o, v = .agg [.bool n, z] ∧ HoldsZ h' z o ∧ digZ o ∧ sgV n (leV o) = sgV n1 (leV x) + sgV n2 (leV y) ∧ o.length ≤ N + 1) ∧ Sub h h') := by
  have hl1 := hz1.live
  have hl2 := hz2.live
  obtain ⟨bx0, bx1⟩ := leV_bound x hx
  obtain ⟨by0, by1⟩ := leV_bound y hy
  refine acall_intro (n := 48) (rs := [.cell 4 40]) Tryz.func29 rfl rfl rfl rfl (Nat.le_of_ble_eq_true rfl) ?_
  simp only [initSlots]
  -- region 0  law.go:99
  refine awp_rseq [2, 3, 4] (by rfl) fun K hK => ?_
  refine aOps_box (by rfl) (by rfl) (by rfl) fun k0q0 hk0q0 => ?_
  try have hf_0q0 : h k0q0 = none := by first | assumption | (simp only [AHeap.set_none] at hk0q0; simp only [hk0q0])
  skip
  refine aOps_box (by rfl) (by rfl) (by rfl) fun k0q1 hk0q1 => ?_
  have ne_0q1_0q0 : k0q1 ≠ k0q0 := by simp only [AHeap.set_none] at hk0q1; simp only [hk0q1, ne_eq, not_false_eq_true]
  try have hf_0q1 : h k0q1 = none := by first | assumption | (simp only [AHeap.set_none] at hk0q1; simp only [hk0q1])
  skip
  refine aOps_alloc ze40 (cs := [.bool false, .nilSlice]) (by rfl) fun k0q2 hk0q2 => ?_
  have ne_0q2_0q0 : k0q2 ≠ k0q0 := by simp only [AHeap.set_none] at hk0q2; simp only [hk0q2, ne_eq, not_false_eq_true]
  have ne_0q2_0q1 : k0q2 ≠ k0q1 := by simp only [AHeap.set_none] at hk0q2; simp only [hk0q2, ne_eq, not_false_eq_true]
  try have hf_0q2 : h k0q2 = none := by first | assumption | (simp only [AHeap.set_none] at hk0q2; simp only [hk0q2])
  simp (decide := true) only [aOps_nil, ev, putD, Slots.put, Slots.get, Slots.keep, if_true, if_false, AVal.cells, Nat.zero_add]
  repeat (with_reducible refine And.intro ?_ ?_; · first | trivial | omega | (intro hg; simp only [Bool.and_eq_true, Bool.or_eq_true, Bool.not_eq_true', Bool.and_eq_false_iff, Bool.or_eq_false_iff, Bool.not_eq_false', decide_eq_true_eq, decide_eq_false_iff_not, eqNil] at hg; omega) | (simp only [List.length_append, List.length_map, List.length_range, List.length_replicate, List.length_take, List.length_drop, List.length_cons, List.length_nil, List.length_set, List.length_reverse]; omega))
  apply hK; clear hK K
  -- region 1  law.go:100
  refine awp_rseq [2, 3, 4, 5] (by rfl) fun K hK => ?_
  simp (decide := true) only [aOps_nil, ev, absV, absS, putD, Slots.put, Slots.keep, if_true, if_false, true_and, ↓ap_assign, pop_assign]
  repeat (with_reducible refine And.intro ?_ ?_; · first | trivial | omega | (intro hg; simp only [Bool.and_eq_true, Bool.or_eq_true, Bool.not_eq_true', Bool.and_eq_false_iff, Bool.or_eq_false_iff, Bool.not_eq_false', decide_eq_true_eq, decide_eq_false_iff_not, eqNil] at hg; omega) | (simp only [List.length_append, List.length_map, List.length_range, List.length_replicate, List.length_take, List.length_drop, List.length_cons, List.length_nil, List.length_set, List.length_reverse]; omega))
  apply hK; clear hK K
  refine awp_seq ?_
  -- region 2  law.go:101
  refine awp_rseq [2, 3, 4, 5, 12] (by rfl) fun K hK => ?_
  simp (decide := true) only [aOps_nil, ev, putD, Slots.put, Slots.get, Slots.keep, if_true, if_false, true_and, ↓ap_fieldAddr, pop_fieldAddr, fa40_0, ↓ap_loadL, apL_mk, pLoad_one ag4, ↓ap_binOp, pop_binOp, isNilC_tmp, cond_false, pBinX_bne, Tryz.underlying4, rd_ne', ne_eq, not_false_eq_true, ne_0q1_0q0.symm, ne_0q2_0q0.symm, ne_0q2_0q1.symm, rd_any, List.getD_cons_zero, Nat.zero_add, lv_bool]
  repeat (with_reducible refine And.intro ?_ ?_; · first | trivial | omega | (intro hg; simp only [Bool.and_eq_true, Bool.or_eq_true, Bool.not_eq_true', Bool.and_eq_false_iff, Bool.or_eq_false_iff, Bool.not_eq_false', decide_eq_true_eq, decide_eq_false_iff_not, eqNil] at hg; omega) | (simp only [List.length_append, List.length_map, List.length_range, List.length_replicate, List.length_take, List.length_drop, List.length_cons, List.length_nil, List.length_set, List.length_reverse]; omega))
  apply hK; clear hK K
  refine awp_joinT [2, 3, 4, 5] (fun g : AddG => [(2, .ptr (.own k0q0) 0), (3, .ptr (.own k0q1) 0), (4, .ptr (.own k0q2) 0), (5, .int .i64 g.s)]) (fun g : AddG => ((h.set k0q0 ⟨[.bool g.m1, g.w1], 0⟩).set k0q1 ⟨[.bool g.m2, g.w2], 0⟩).set k0q2 ⟨[.bool false, .nilSlice], 0⟩) (fun g : AddG => g.ok h N (sgV n1 (leV x) + sgV n2 (leV y))) ?_ ?_
  · refine awp_cond (b := _) rfl (fun hb1 => ?_) (fun hb1 => ?_)
    · try simp only [Bool.not_eq_true'] at hb1
      have hne : n1 ≠ n2 := by simpa using hb1
      -- region 3  law.go:102
      refine awp_rseq [2, 3, 4, 5] (by rfl) fun K hK => ?_
      simp (decide := true) only [aOps_nil, ev, absV, absS, putD, Slots.put, Slots.keep, if_true, if_false, true_and, ↓ap_assign, pop_assign]
      repeat (with_reducible refine And.intro ?_ ?_; · first | trivial | omega | (intro hg; simp only [Bool.and_eq_true, Bool.or_eq_true, Bool.not_eq_true', Bool.and_eq_false_iff, Bool.or_eq_false_iff, Bool.not_eq_false', decide_eq_true_eq, decide_eq_false_iff_not, eqNil] at hg; omega) | (simp only [List.length_append, List.length_map, List.length_range, List.length_replicate, List.length_take, List.length_drop, List.length_cons, List.length_nil, List.length_set, List.length_reverse]; omega))
      apply hK; clear hK K
      -- region 4  law.go:103
      refine awp_rseq [2, 3, 4, 5, 15] (by rfl) fun K hK => ?_
      simp (decide := true) only [ev, putD, Slots.put, Slots.get, if_true, if_false, true_and, ↓ap_loadL, apL_mk, pLoad_agg ag40 sz40, rd_ne', ne_eq, not_false_eq_true, ne_0q1_0q0.symm, ne_0q2_0q0.symm, ne_0q2_0q1.symm, rd_any, cellsAt, List.getD_cons_zero, List.getD_cons_succ, Nat.zero_add, lv_bool, allLive, Bool.and_true, hl1, hl2]
      repeat (with_reducible refine And.intro ?_ ?_; · first | trivial | omega | (intro hg; simp only [Bool.and_eq_true, Bool.or_eq_true, Bool.not_eq_true', Bool.and_eq_false_iff, Bool.or_eq_false_iff, Bool.not_eq_false', decide_eq_true_eq, decide_eq_false_iff_not, eqNil] at hg; omega) | (simp only [List.length_append, List.length_map, List.length_range, List.length_replicate, List.length_take, List.length_drop, List.length_cons, List.length_nil, List.length_set, List.length_reverse]; omega))
      refine aOps_callV (V := .bool (decide (leV x < leV y))) (by rfl) (by rfl) (c_less w₀ _ n1 n2 z1 z2 x y (hz1.sub (by repeat (first | exact Sub.refl _ | refine Sub.trans_set ?_ (by assumption)))) (hz2.sub (by repeat (first | exact Sub.refl _ | refine Sub.trans_set ?_ (by assumption)))) hx hy (by omega) (by omega)) ?_
      simp (decide := true) only [aOps_nil, putD, Slots.put, Slots.keep, if_true, if_false]
      repeat (with_reducible refine And.intro ?_ ?_; · first | trivial | omega | (intro hg; simp only [Bool.and_eq_true, Bool.or_eq_true, Bool.not_eq_true', Bool.and_eq_false_iff, Bool.or_eq_false_iff, Bool.not_eq_false', decide_eq_true_eq, decide_eq_false_iff_not, eqNil] at hg; omega) | (simp only [List.length_append, List.length_map, List.length_range, List.length_replicate, List.length_take, List.length_drop, List.length_cons, List.length_nil, List.length_set, List.length_reverse]; omega))
      apply hK; clear hK K
      refine awp_cond (b := _) rfl (fun hb2 => ?_) (fun hb2 => ?_)
      · try simp only [decide_eq_true_eq] at hb2
        -- region 5  law.go:104
        refine awp_r [2, 3, 4, 5] (by rfl) ?_
        simp (decide := true) only [ev, putD, Slots.put, Slots.get, if_true, if_false, true_and, ↓ap_loadL, apL_mk, pLoad_agg ag40 sz40, rd_ne', ne_eq, not_false_eq_true, ne_0q1_0q0.symm, ne_0q2_0q0.symm, ne_0q2_0q1.symm, rd_any, cellsAt, List.getD_cons_zero, List.getD_cons_succ, Nat.zero_add, lv_bool, allLive, Bool.and_true, hl1, hl2]
        repeat (with_reducible refine And.intro ?_ ?_; · first | trivial | omega | (intro hg; simp only [Bool.and_eq_true, Bool.or_eq_true, Bool.not_eq_true', Bool.and_eq_false_iff, Bool.or_eq_false_iff, Bool.not_eq_false', decide_eq_true_eq, decide_eq_false_iff_not, eqNil] at hg; omega) | (simp only [List.length_append, List.length_map, List.length_range, List.length_replicate, List.length_take, List.length_drop, List.length_cons, List.length_nil, List.length_set, List.length_reverse]; omega))
        refine aOps_store (v := .agg [.bool n2, z2]) (by rfl) (by rfl) ((AHeap.set_ne _ _ ne_0q2_0q0.symm).trans ((AHeap.set_ne _ _ ne_0q1_0q0.symm).trans (AHeap.set_same _ _ _))) sz40 (by rfl) (by rfl) (Nat.le_refl _) (Nat.zero_le _) (scal_big hz2.scal) ?_
        simp only [setAt, AVal.cells, List.length_nil, List.set_cons_zero, List.set_cons_succ, Nat.zero_add]
        refine aOps_store (v := .agg [.bool n1, z1]) (by rfl) (by rfl) ((AHeap.set_ne _ _ ne_0q1_0q0).trans ((AHeap.set_ne _ _ ne_0q2_0q1.symm).trans (AHeap.set_same _ _ _))) sz40 (by rfl) (by rfl) (Nat.le_refl _) (Nat.zero_le _) (scal_big hz1.scal) ?_
        simp only [setAt, AVal.cells, List.length_nil, List.set_cons_zero, List.set_cons_succ, Nat.zero_add]
        simp (decide := true) only [aOps_nil, putD, Slots.keep, if_true, if_false]
        repeat (with_reducible refine And.intro ?_ ?_; · first | trivial | omega | (intro hg; simp only [Bool.and_eq_true, Bool.or_eq_true, Bool.not_eq_true', Bool.and_eq_false_iff, Bool.or_eq_false_iff, Bool.not_eq_false', decide_eq_true_eq, decide_eq_false_iff_not, eqNil] at hg; omega) | (simp only [List.length_append, List.length_map, List.length_range, List.length_replicate, List.length_take, List.length_drop, List.length_cons, List.length_nil, List.length_set, List.length_reverse]; omega))
        try simp only [thenA_normal]
        first
        | (have q : leV x < leV y := by assumption
           refine ⟨⟨-1, n2, z2, y, n1, z1, x⟩, rfl, ?_, hz2, hz1, hy, hx, ly, lx, .inr rfl, by simp only; omega, (sum_sign.2 hne).2⟩
           rw [swap_heap h ne_0q1_0q0 ne_0q2_0q0 ne_0q2_0q1]
           exact Sub.refl _)
        | (have q : ¬ leV x < leV y := by assumption
           exact ⟨⟨-1, n1, z1, x, n2, z2, y⟩, rfl, Sub.refl _, hz1, hz2, hx, hy, lx, ly, .inr rfl, by simp only; omega, (sum_sign.2 hne).1⟩)
        | exact ⟨⟨1, n1, z1, x, n2, z2, y⟩, rfl, Sub.refl _, hz1, hz2, hx, hy, lx, ly, .inl rfl, by simp only; omega, sum_sign.1 heq⟩
      · try simp only [decide_eq_false_iff_not] at hb2
        refine awp_skip ?_
        try simp only [thenA_normal]
        first
        | (have q : leV x < leV y := by assumption
           refine ⟨⟨-1, n2, z2, y, n1, z1, x⟩, rfl, ?_, hz2, hz1, hy, hx, ly, lx, .inr rfl, by simp only; omega, (sum_sign.2 hne).2⟩
           rw [swap_heap h ne_0q1_0q0 ne_0q2_0q0 ne_0q2_0q1]
           exact Sub.refl _)
        | (have q : ¬ leV x < leV y := by assumption
           exact ⟨⟨-1, n1, z1, x, n2, z2, y⟩, rfl, Sub.refl _, hz1, hz2, hx, hy, lx, ly, .inr rfl, by simp only; omega, (sum_sign.2 hne).1⟩)
        | exact ⟨⟨1, n1, z1, x, n2, z2, y⟩, rfl, Sub.refl _, hz1, hz2, hx, hy, lx, ly, .inl rfl, by simp only; omega, sum_sign.1 heq⟩
    · try simp only [Bool.not_eq_false'] at hb1
      have heq : n1 = n2 := by simpa using hb1
      refine awp_skip ?_
      try simp only [thenA_normal]
      first
      | (have q : leV x < leV y := by assumption
         refine ⟨⟨-1, n2, z2, y, n1, z1, x⟩, rfl, ?_, hz2, hz1, hy, hx, ly, lx, .inr rfl, by simp only; omega, (sum_sign.2 hne).2⟩
         rw [swap_heap h ne_0q1_0q0 ne_0q2_0q0 ne_0q2_0q1]
         exact Sub.refl _)
      | (have q : ¬ leV x < leV y := by assumption
         exact ⟨⟨-1, n1, z1, x, n2, z2, y⟩, rfl, Sub.refl _, hz1, hz2, hx, hy, lx, ly, .inr rfl, by simp only; omega, (sum_sign.2 hne).1⟩)
      | exact ⟨⟨1, n1, z1, x, n2, z2, y⟩, rfl, Sub.refl _, hz1, hz2, hx, hy, lx, ly, .inl rfl, by simp only; omega, sum_sign.1 heq⟩
  · have tt : ∃ t, t = sgV n1 (leV x) + sgV n2 (leV y) := ⟨_, rfl⟩
    obtain ⟨t, ht⟩ := tt
    rw [← ht]
    clear hl1 hl2 bx0 bx1 by0 by1 hz1 hz2 hx hy lx ly ht
    clear x y
    rintro ⟨s, m1, w1, x, m2, w2, y⟩ ⟨hz1, hz2, hx, hy, lx, ly, hs, hpos, hsg⟩
    simp only at hz1 hz2 hx hy lx ly hs hpos hsg ⊢
    obtain ⟨bx0, bx1⟩ := leV_bound x hx
    obtain ⟨by0, by1⟩ := leV_bound y hy
    have hl1 := hz1.live
    have hl2 := hz2.live
    have e0 : (((h.set k0q0 ⟨[.bool m1, w1], 0⟩).set k0q1 ⟨[.bool m2, w2], 0⟩).set k0q2 ⟨[.bool false, .nilSlice], 0⟩) k0q0 = some ⟨[.bool m1, w1], 0⟩ := by rw [AHeap.set_ne _ _ ne_0q2_0q0.symm, AHeap.set_ne _ _ ne_0q1_0q0.symm, AHeap.set_same]
    have e1 : (((h.set k0q0 ⟨[.bool m1, w1], 0⟩).set k0q1 ⟨[.bool m2, w2], 0⟩).set k0q2 ⟨[.bool false, .nilSlice], 0⟩) k0q1 = some ⟨[.bool m2, w2], 0⟩ := by rw [AHeap.set_ne _ _ ne_0q2_0q1.symm, AHeap.set_same]
    -- region 6  law.go:107
    refine awp_rseq [2, 3, 4, 5, 6] (by rfl) fun K hK => ?_
    simp (decide := true) only [ev, absV, absS, putD, Slots.put, Slots.get, if_true, if_false, true_and, ↓ap_fieldAddr, pop_fieldAddr, fa40_0, ↓ap_loadL, apL_mk, pLoad_one ag4, ↓ap_build, ↓pop_buildL, bld40_0, evP, List.map_cons, List.map_nil, rd_ne', ne_eq, not_false_eq_true, ne_0q1_0q0.symm, ne_0q2_0q0.symm, rd_any, List.getD_cons_zero, Nat.zero_add, lv_bool]
    repeat (with_reducible refine And.intro ?_ ?_; · first | trivial | omega | (intro hg; simp only [Bool.and_eq_true, Bool.or_eq_true, Bool.not_eq_true', Bool.and_eq_false_iff, Bool.or_eq_false_iff, Bool.not_eq_false', decide_eq_true_eq, decide_eq_false_iff_not, eqNil] at hg; omega) | (simp only [List.length_append, List.length_map, List.length_range, List.length_replicate, List.length_take, List.length_drop, List.length_cons, List.length_nil, List.length_set, List.length_reverse]; omega))
    refine aOps_alloc ze40 (cs := [.bool false, .nilSlice]) (by rfl) fun k6q3 hk6q3 => ?_
    have ne_6q3_0q0 : k6q3 ≠ k0q0 := by simp only [AHeap.set_none] at hk6q3; simp only [hk6q3, ne_eq, not_false_eq_true]
    have ne_6q3_0q1 : k6q3 ≠ k0q1 := by simp only [AHeap.set_none] at hk6q3; simp only [hk6q3, ne_eq, not_false_eq_true]
    have ne_6q3_0q2 : k6q3 ≠ k0q2 := by simp only [AHeap.set_none] at hk6q3; simp only [hk6q3, ne_eq, not_false_eq_true]
    try have hf_6q3 : h k6q3 = none := by first | assumption | (simp only [AHeap.set_none] at hk6q3; simp only [hk6q3])
    refine aOps_store (by rfl) (by rfl) (by repeat (first | exact AHeap.set_same _ _ _ | assumption | refine (AHeap.set_ne _ _ (by first | assumption | exact Ne.symm (by assumption))).trans ?_)) sz40 (by rfl) (by rfl) (by first | exact Nat.le_refl _ | decide | (simp; done) | (simp; omega)) (Nat.zero_le _) (by rfl) ?_
    simp only [AHeap.set_set, AVal.cells]
    simp (decide := true) only [aOps_nil, ev, putD, Slots.put, Slots.get, Slots.keep, if_true, if_false, setAt, List.set_cons_zero, List.set_cons_succ, Nat.zero_add]
    repeat (with_reducible refine And.intro ?_ ?_; · first | trivial | omega | (intro hg; simp only [Bool.and_eq_true, Bool.or_eq_true, Bool.not_eq_true', Bool.and_eq_false_iff, Bool.or_eq_false_iff, Bool.not_eq_false', decide_eq_true_eq, decide_eq_false_iff_not, eqNil] at hg; omega) | (simp only [List.length_append, List.length_map, List.length_range, List.length_replicate, List.length_take, List.length_drop, List.length_cons, List.length_nil, List.length_set, List.length_reverse]; omega))
    apply hK; clear hK K
    refine awp_seq ?_
    -- region 7  law.go:108
    refine awp_rseq [2, 3, 4, 5, 6, 7] (by rfl) fun K hK => ?_
    simp (decide := true) only [aOps_nil, ev, absV, absS, putD, Slots.put, Slots.keep, if_true, if_false, true_and, ↓ap_assign, pop_assign]
    repeat (with_reducible refine And.intro ?_ ?_; · first | trivial | omega | (intro hg; simp only [Bool.and_eq_true, Bool.or_eq_true, Bool.not_eq_true', Bool.and_eq_false_iff, Bool.or_eq_false_iff, Bool.not_eq_false', decide_eq_true_eq, decide_eq_false_iff_not, eqNil] at hg; omega) | (simp only [List.length_append, List.length_map, List.length_range, List.length_replicate, List.length_take, List.length_drop, List.length_cons, List.length_nil, List.length_set, List.length_reverse]; omega))
    apply hK; clear hK K
    refine awp_block ?_
    refine awp_loopG [2, 3, 4, 5, 6, 7] (fun g : Nat × Option Buf => [(2, .ptr (.own k0q0) 0), (3, .ptr (.own k0q1) 0), (4, .ptr (.own k0q2) 0), (5, .int .i64 s), (6, .ptr (.own k6q3) 0), (7, .int .i64 g.1)]) (fun g : Nat × Option Buf => bufS (((h.set k0q0 ⟨[.bool m1, w1], 0⟩).set k0q1 ⟨[.bool m2, w2], 0⟩).set k0q2 ⟨[.bool false, .nilSlice], 0⟩) k6q3 m1 g.2) (fun g : Nat × Option Buf => g.1 ≤ max x.length y.length ∧ bufOk ((((h.set k0q0 ⟨[.bool m1, w1], 0⟩).set k0q1 ⟨[.bool m2, w2], 0⟩).set k0q2 ⟨[.bool false, .nilSlice], 0⟩).set k6q3 ⟨[.bool m1, bufV 1 g.2], 0⟩) 1 g.2 ∧ bufC g.2 = intCells (sumZ s x y g.1)) (fun g : Nat × Option Buf => max x.length y.length - g.1) (0, none) (by rfl) (Sub.refl _) ⟨Nat.zero_le _, trivial, rfl⟩ ?_
    rintro ⟨i, b⟩ ⟨hi, hok, hc⟩
    simp only at hi hok hc ⊢
    have hlb : (bufC b).length ≤ 10000 := by rw [hc, intCells_length, sumZ_length]; omega
    have hsb : Sub h (bufS (((h.set k0q0 ⟨[.bool m1, w1], 0⟩).set k0q1 ⟨[.bool m2, w2], 0⟩).set k0q2 ⟨[.bool false, .nilSlice], 0⟩) k6q3 m1 b) := bufS_sub hok (by repeat (first | exact Sub.refl _ | refine Sub.trans_set ?_ (by assumption)))
    have hm1 := hz1.sub hsb
    have hm2 := hz2.sub hsb
    refine awp_seq ?_
    -- region 8  law.go:108
    refine awp_rseq [2, 3, 4, 5, 6, 7, 29] (by rfl) fun K hK => ?_
    simp (decide := true) only [aOps_nil, ev, putD, Slots.put, Slots.get, Slots.keep, if_true, if_false, true_and, ↓ap_move, pop_move, ↓ap_fieldAddr, pop_fieldAddr, fa40_1, ↓ap_loadL, apL_mk, pLoad_one ag38, ↓ap_len, pop_len, ↓ap_max, pop_max, pMax_int, evs, List.map_cons, List.map_nil, ↓ap_binOp, pop_binOp, isNilC_tmp, cond_false, pBinX_int, pI_lss, List.getD_cons_zero, List.getD_cons_succ, Nat.zero_add, hl1, hl2, hz1.len Tryz.underlying38, hz2.len Tryz.underlying38, bufS_rd2 w₀ hok e0 ne_6q3_0q0.symm, bufS_rd2 w₀ hok e1 ne_6q3_0q1.symm]
    repeat (with_reducible refine And.intro ?_ ?_; · first | trivial | omega | (intro hg; simp only [Bool.and_eq_true, Bool.or_eq_true, Bool.not_eq_true', Bool.and_eq_false_iff, Bool.or_eq_false_iff, Bool.not_eq_false', decide_eq_true_eq, decide_eq_false_iff_not, eqNil] at hg; omega) | (simp only [List.length_append, List.length_map, List.length_range, List.length_replicate, List.length_take, List.length_drop, List.length_cons, List.length_nil, List.length_set, List.length_reverse]; omega))
    apply hK; clear hK K
    refine awp_cond (b := _) rfl (fun hb3 => ?_) (fun hb3 => ?_)
    · try simp only [decide_eq_true_eq] at hb3
      have dx := hx.at i
      have dy := hy.at i
      have ey : IntKind.i64.wrap (s * y.getD i 0) = s * y.getD i 0 := by rcases hs with rfl | rfl <;> exact wrap_i64 (by omega) (by omega)
      have ex : IntKind.i64.wrap (x.getD i 0 + s * y.getD i 0) = x.getD i 0 + s * y.getD i 0 := by rcases hs with rfl | rfl <;> exact wrap_i64 (by omega) (by omega)
      refine awp_skip ?_
      change Awp _ _ _ _ _ _ _
      refine awp_seq ?_
      refine awp_block ?_
      -- region 10  law.go:109
      refine awp_draw_F 12 [] mixed (by kernel_rfl) (by rfl) ?_
      simp only [List.take_succ_cons, List.take_zero, List.drop_succ_cons, List.drop_zero]
      simp (decide := true) only [ev, putD, Slots.put, Slots.get, if_true, if_false, true_and, ↓fp_fieldAddr, pop_fieldAddr, fa40_1, ↓fp_load, pop_load, pLoad_one ag38, pLoad_agg ag40 sz40, ↓fp_move, pop_move, cellsAt, List.getD_cons_zero, List.getD_cons_succ, Nat.zero_add, lv_bool, allLive, Bool.and_true, hl1, bufS_rd2 w₀ hok e0 ne_6q3_0q0.symm, bufS_rd w₀ hok, bufV_live]
      repeat (with_reducible refine And.intro ?_ ?_; · first | trivial | omega | (intro hg; simp only [Bool.and_eq_true, Bool.or_eq_true, Bool.not_eq_true', Bool.and_eq_false_iff, Bool.or_eq_false_iff, Bool.not_eq_false', decide_eq_true_eq, decide_eq_false_iff_not, eqNil] at hg; omega) | (simp only [List.length_append, List.length_map, List.length_range, List.length_replicate, List.length_take, List.length_drop, List.length_cons, List.length_nil, List.length_set, List.length_reverse]; omega))
      refine fOps_callV (V := .int .i64 (x.getD i 0)) (by rfl) (by rfl) (by first | trivial | (simp (decide := true) only [AVal.okIn, okInL, and_true, true_and, decA, AHeap.set_same, Option.isSome_some]; done) | (simp [AVal.okIn, okInL, AHeap.set]; done)) (fun g hg => c_digit w₀ _ m1 w1 x (hm1.sub hg) (by omega) i (by omega)) ?_
      simp (decide := true) only [ev, putD, Slots.put, Slots.get, if_true, if_false, true_and, ↓fp_move, pop_move, ↓fp_load, pop_load, pLoad_agg ag40 sz40, cellsAt, List.getD_cons_zero, List.getD_cons_succ, Nat.zero_add, lv_bool, allLive, Bool.and_true, hl2, bufS_rd2 w₀ hok e1 ne_6q3_0q1.symm]
      repeat (with_reducible refine And.intro ?_ ?_; · first | trivial | omega | (intro hg; simp only [Bool.and_eq_true, Bool.or_eq_true, Bool.not_eq_true', Bool.and_eq_false_iff, Bool.or_eq_false_iff, Bool.not_eq_false', decide_eq_true_eq, decide_eq_false_iff_not, eqNil] at hg; omega) | (simp only [List.length_append, List.length_map, List.length_range, List.length_replicate, List.length_take, List.length_drop, List.length_cons, List.length_nil, List.length_set, List.length_reverse]; omega))
      refine fOps_callV (V := .int .i64 (y.getD i 0)) (by rfl) (by rfl) (by first | trivial | (simp (decide := true) only [AVal.okIn, okInL, and_true, true_and, decA, AHeap.set_same, Option.isSome_some]; done) | (simp [AVal.okIn, okInL, AHeap.set]; done)) (fun g hg => c_digit w₀ _ m2 w2 y (hm2.sub hg) (by omega) i (by omega)) ?_
      simp (decide := true) only [ev, putD, Slots.put, Slots.get, if_true, if_false, true_and, ↓fp_binOp, pop_binOp, isNilC_tmp, cond_false, pBinX_int, pI_mul, pI_add, ey, ex]
      try simp (disch := omega) only [wrap_i64, wrap_u8]
      repeat (with_reducible refine And.intro ?_ ?_; · first | trivial | omega | (intro hg; simp only [Bool.and_eq_true, Bool.or_eq_true, Bool.not_eq_true', Bool.and_eq_false_iff, Bool.or_eq_false_iff, Bool.not_eq_false', decide_eq_true_eq, decide_eq_false_iff_not, eqNil] at hg; omega) | (simp only [List.length_append, List.length_map, List.length_range, List.length_replicate, List.length_take, List.length_drop, List.length_cons, List.length_nil, List.length_set, List.length_reverse]; omega))
      refine fOps_lay (by rfl) ?_
      refine aOps_buildSlice (cs := intCells [x.getD i 0 + s * y.getD i 0]) (by kernel_rfl) fun k10q11 hk10q11 => ?_
      rw [aOps_nil]
      repeat (with_reducible refine And.intro ?_ ?_; · first | trivial | omega | (intro hg; simp only [Bool.and_eq_true, Bool.or_eq_true, Bool.not_eq_true', Bool.and_eq_false_iff, Bool.or_eq_false_iff, Bool.not_eq_false', decide_eq_true_eq, decide_eq_false_iff_not, eqNil] at hg; omega) | (simp only [List.length_append, List.length_map, List.length_range, List.length_replicate, List.length_take, List.length_drop, List.length_cons, List.length_nil, List.length_set, List.length_reverse]; omega))
      try simp only [fOps_nil]
      refine aOps_appendBuf (h₀ := (((h.set k0q0 ⟨[.bool m1, w1], 0⟩).set k0q1 ⟨[.bool m2, w2], 0⟩).set k0q2 ⟨[.bool false, .nilSlice], 0⟩).set k6q3 ⟨[.bool m1, bufV 1 b], 0⟩) (b := b) (src := intCells [x.getD i 0 + s * y.getD i 0]) (by rfl) (by rfl) Tryz.underlying38 Tryz.underlying38 (by intro k e; cases e) sz3 by3 ze3 (by rfl) (by decide) (by rfl) hok (Sub.set hk10q11) (by rfl) (by rfl) (src_one w₀ _ _ _).1 (src_one w₀ _ _ _).2 (by rfl) (by rfl) (by rfl) (by omega) (by omega) fun b' h' hok' hc' hs' => ?_
      simp (decide := true) only [ev, putD, Slots.put, Slots.get, if_true, if_false, true_and, ↓ap_fieldAddr, pop_fieldAddr, fa40_1, Nat.zero_add]
      repeat (with_reducible refine And.intro ?_ ?_; · first | trivial | omega | (intro hg; simp only [Bool.and_eq_true, Bool.or_eq_true, Bool.not_eq_true', Bool.and_eq_false_iff, Bool.or_eq_false_iff, Bool.not_eq_false', decide_eq_true_eq, decide_eq_false_iff_not, eqNil] at hg; omega) | (simp only [List.length_append, List.length_map, List.length_range, List.length_replicate, List.length_take, List.length_drop, List.length_cons, List.length_nil, List.length_set, List.length_reverse]; omega))
      refine aOps_store (by rfl) (by rfl) (hs' _ _ (bufH_at hok' (AHeap.set_same _ _ _))) sz38 (bufV_live _ _) (by rw [bufV_cells]; rfl) (by simp) (Nat.zero_le _) (by rw [bufV_cells]; simp [allScal, bufV_scal]) ?_
      rw [bufV_cells]
      simp only [setAt, List.set_cons_succ, List.set_cons_zero]
      simp (decide := true) only [aOps_nil, putD]
      repeat (with_reducible refine And.intro ?_ ?_; · first | trivial | omega | (intro hg; simp only [Bool.and_eq_true, Bool.or_eq_true, Bool.not_eq_true', Bool.and_eq_false_iff, Bool.or_eq_false_iff, Bool.not_eq_false', decide_eq_true_eq, decide_eq_false_iff_not, eqNil] at hg; omega) | (simp only [List.length_append, List.length_map, List.length_range, List.length_replicate, List.length_take, List.length_drop, List.length_cons, List.length_nil, List.length_set, List.length_reverse]; omega))
      change Awp _ _ _ _ _ _ _
      -- region 9  law.go:108
      refine awp_r [2, 3, 4, 5, 6, 7] (by rfl) ?_
      simp (decide := true) only [aOps_nil, ev, absV, absS, putD, Slots.put, Slots.get, Slots.keep, if_true, if_false, true_and, ↓ap_move, pop_move, ↓ap_binOp, pop_binOp, isNilC_int, cond_false, pBinX_int, pI_add, ↓ap_assign, pop_assign]
      try simp (disch := omega) only [wrap_i64]
      repeat (with_reducible refine And.intro ?_ ?_; · first | trivial | omega | (intro hg; simp only [Bool.and_eq_true, Bool.or_eq_true, Bool.not_eq_true', Bool.and_eq_false_iff, Bool.or_eq_false_iff, Bool.not_eq_false', decide_eq_true_eq, decide_eq_false_iff_not, eqNil] at hg; omega) | (simp only [List.length_append, List.length_map, List.length_range, List.length_replicate, List.length_take, List.length_drop, List.length_cons, List.length_nil, List.length_set, List.length_reverse]; omega))
      try simp only [thenA_normal]
      refine ⟨(i + 1, b'), rfl, (bufS_store hok' hs').1, ⟨by simp only; omega, (bufS_store hok' hs').2, ?_⟩, by simp only; omega⟩
      simp only
      rw [hc', hc, ← intCells_append, sumZ_succ]
    · try simp only [decide_eq_false_iff_not] at hb3
      have hi' : i = max x.length y.length := by omega
      have hv := leV_sumZ s x y i
      rw [List.take_of_length_le (by omega), List.take_of_length_le (by omega)] at hv
      have hsm : smallZ 20 (sumZ s x y i) := by
        intro j
        rw [sumZ_at]
        have dx := hx.at j
        have dy := hy.at j
        split
        · rcases hs with rfl | rfl <;> omega
        · omega
      have hvl : leV (sumZ s x y i) < 10 ^ (N + 1) := by
        have p1 : (10 : Int) ^ x.length ≤ 10 ^ N := by exact_mod_cast Nat.pow_le_pow_right (show 0 < 10 by decide) lx
        have p2 : (10 : Int) ^ y.length ≤ 10 ^ N := by exact_mod_cast Nat.pow_le_pow_right (show 0 < 10 by decide) ly
        rw [hv, Int.pow_succ]
        rcases hs with rfl | rfl <;> omega
      refine awp_exit ?_
      change Awp _ _ _ _ _ _ _
      -- region 11  law.go:111
      refine awp_rseq [4] (by rfl) fun K hK => ?_
      simp (decide := true) only [ev, putD, Slots.put, Slots.get, if_true, if_false, true_and, ↓ap_loadL, apL_mk, pLoad_agg ag40 sz40, cellsAt, List.getD_cons_zero, List.getD_cons_succ, Nat.zero_add, lv_bool, allLive, Bool.and_true, bufS_rd w₀ hok, bufV_live]
      repeat (with_reducible refine And.intro ?_ ?_; · first | trivial | omega | (intro hg; simp only [Bool.and_eq_true, Bool.or_eq_true, Bool.not_eq_true', Bool.and_eq_false_iff, Bool.or_eq_false_iff, Bool.not_eq_false', decide_eq_true_eq, decide_eq_false_iff_not, eqNil] at hg; omega) | (simp only [List.length_append, List.length_map, List.length_range, List.length_replicate, List.length_take, List.length_drop, List.length_cons, List.length_nil, List.length_set, List.length_reverse]; omega))
      refine aOps_call (by rfl) (by rfl) (c_settled w₀ _ m1 (bufV 1 b) (sumZ s x y i) (holds_buf hok hc (Sub.refl _)) 20 (by decide) (by decide) hsm (N + 1) (by rw [sumZ_length]; omega) (by omega) hvl (by rw [hv]; exact hpos)) fun x11q1 h11q1 hx11q1 => ?_
      obtain ⟨⟨z', o, rfl, hzo, hdo, hvo, hlo⟩, hsub⟩ := hx11q1
      have hlo1 := hzo.live
      refine aOps_store (v := .agg [.bool m1, z']) (by rfl) (by rfl) (hsub _ _ (bufH_at hok ((AHeap.set_ne _ _ ne_6q3_0q2.symm).trans (AHeap.set_same _ _ _)))) sz40 (by rfl) (by rfl) (Nat.le_refl _) (Nat.zero_le _) (scal_big hzo.scal) ?_
      simp only [setAt, AVal.cells, List.length_nil, List.set_cons_zero, List.set_cons_succ, Nat.zero_add]
      simp (decide := true) only [aOps_nil, putD, Slots.put, Slots.keep, if_true, if_false]
      repeat (with_reducible refine And.intro ?_ ?_; · first | trivial | omega | (intro hg; simp only [Bool.and_eq_true, Bool.or_eq_true, Bool.not_eq_true', Bool.and_eq_false_iff, Bool.or_eq_false_iff, Bool.not_eq_false', decide_eq_true_eq, decide_eq_false_iff_not, eqNil] at hg; omega) | (simp only [List.length_append, List.length_map, List.length_range, List.length_replicate, List.length_take, List.length_drop, List.length_cons, List.length_nil, List.length_set, List.length_reverse]; omega))
      apply hK; clear hK K
      refine awp_ret ?_
      try simp only [thenA_ret, inBlockA_ret]
      refine retA_retE (?_) ?_
      · simp (decide := true) only [resPre, resV_cell, Slots.get, if_true, and_true, resV_cell, pLoad_agg ag40 sz40, rd_set, cellsAt, List.getD_cons_zero, List.getD_cons_succ, Nat.zero_add, lv_bool, allLive, Bool.and_true, Bool.true_and, cellsAt, List.getD_cons_zero, List.getD_cons_succ, Nat.zero_add, lv_bool, allLive, Bool.and_true]
        exact hlo1
      simp (decide := true) only [Slots.get, if_true, resOfG_one, resV_cell, pLoad_agg ag40 sz40, rd_set, cellsAt, List.getD_cons_zero, List.getD_cons_succ, Nat.zero_add, lv_bool, allLive, Bool.and_true, Bool.true_and, cellsAt, List.getD_cons_zero, List.getD_cons_succ, Nat.zero_add, lv_bool, allLive, Bool.and_true]
      refine ⟨_, Sub.refl _, ⟨m1, z', o, rfl, hzo.set_bool (hsub _ _ (bufH_at hok ((AHeap.set_ne _ _ ne_6q3_0q2.symm).trans (AHeap.set_same _ _ _)))) _, hdo, by rw [hvo, hv]; exact hsg, hlo⟩, Sub.trans_set (Sub.trans hsb hsub) hf_0q2⟩
end Go.Proofs.YthiiakghjoeikaaGreatDoor

/-
  The statements' big numbers: mul.
  Conditions: none.
-/
namespace Go.Proofs.YthiiakghjoeikaaGreatDoor
open Go.AM
open Go.Proofs
open Go.Dec
open Go.Lib (decDigits)
set_option maxRecDepth 100000

theorem leV_set (r : List Int) (i : Nat) (c : Int) (hi : i < r.length) : leV (r.set i c) = leV r + (c - r.getD i 0) * 10 ^ i := by
  unfold leV
  have e : (r.set i c).reverse = r.reverse.set (r.length - 1 - i) c := by
    apply List.ext_getElem?
    intro j
    by_cases hj : j < r.length
    · rw [List.getElem?_reverse (by rw [List.length_set]; exact hj), List.length_set, List.getElem?_set, List.getElem?_set]
      by_cases e : i = r.length - 1 - j
      · rw [if_pos e, if_pos (by omega), if_pos (by omega), if_pos (by rw [List.length_reverse]; omega)]
      · rw [if_neg e, if_neg (by omega), List.getElem?_reverse hj]
    · rw [List.getElem?_eq_none (by rw [List.length_reverse, List.length_set]; omega), List.getElem?_eq_none (by rw [List.length_set, List.length_reverse]; omega)]
  rw [e, valL_set _ _ _ (by rw [List.length_reverse]; omega), List.length_reverse]
  have e2 : r.length - 1 - (r.length - 1 - i) = i := by omega
  have e3 : r.reverse.getD (r.length - 1 - i) 0 = r.getD i 0 := by
    rw [List.getD, List.getElem?_reverse (by omega), e2]
    rfl
  rw [e2, e3]
theorem leV_rep (n : Nat) : leV (List.replicate n 0) = 0 := by
  have := leV_zeros n []
  rw [List.append_nil] at this
  rw [this]
  simp [leV, valL]
/-- The rows behind i rows and k columns of the table. -/
def rowV (x y : List Int) (i k : Nat) : Int := leV (x.take i) * leV y + x.getD i 0 * 10 ^ i * leV (y.take k)
theorem rowV_col (x y : List Int) (i k : Nat) : rowV x y i (k + 1) = rowV x y i k + x.getD i 0 * y.getD k 0 * 10 ^ (i + k) := by
  unfold rowV
  rw [leV_take, Int.mul_add, ← Int.add_assoc, Int.pow_add]
  congr 1
  generalize x.getD i 0 = a
  generalize y.getD k 0 = b
  generalize (10 : Int) ^ i = p
  generalize (10 : Int) ^ k = q
  simp only [Int.mul_comm, Int.mul_left_comm]
theorem rowV_row (x y : List Int) (i k : Nat) (hk : y.length ≤ k) : rowV x y i k = rowV x y (i + 1) 0 := by
  unfold rowV
  rw [List.take_of_length_le hk, leV_take, Int.add_mul]
  simp [leV, valL]
structure rowOk (x y r : List Int) (i k : Nat) : Prop where
  len : r.length = x.length + y.length
  val : leV r = rowV x y i k
  up : ∀ j : Nat, 0 ≤ r.getD j 0 ∧ r.getD j 0 ≤ 81 * ((i : Int) + 1)
  ahead : ∀ j : Nat, i + k ≤ j → r.getD j 0 ≤ 81 * (i : Int)
theorem rowOk.start (x y : List Int) : rowOk x y (List.replicate (x.length + y.length) 0) 0 0 := by
  have hz : ∀ n j : Nat, (List.replicate n (0 : Int)).getD j 0 = 0 := fun n j => by
    by_cases h : j < n
    · simp [List.getD, h]
    · simp [List.getD, h]
  refine ⟨by simp, by rw [leV_rep]; simp [rowV, leV, valL], fun j => ?_, fun j _ => ?_⟩
  · rw [hz]; omega
  · rw [hz]; omega
theorem rowOk.next {x y r : List Int} {i k : Nat} (h : rowOk x y r i k) (hx : digZ x) (hy : digZ y) (hi : i < x.length) (hk : k < y.length) : rowOk x y (r.set (i + k) (r.getD (i + k) 0 + x.getD i 0 * y.getD k 0)) i (k + 1) := by
  obtain ⟨a0, a9⟩ := hx.at i
  obtain ⟨b0, b9⟩ := hy.at k
  have p0 : 0 ≤ x.getD i 0 * y.getD k 0 := Int.mul_nonneg a0 b0
  have p1 : x.getD i 0 * y.getD k 0 ≤ 9 * 9 := Int.mul_le_mul a9 b9 b0 (by decide)
  have hl := h.len
  refine ⟨by rw [List.length_set]; exact hl, ?_, fun j => ?_, fun j hj => ?_⟩
  · rw [leV_set _ _ _ (by omega), h.val, rowV_col, show ∀ a b : Int, a + b - a = b by intros; omega]
  · by_cases e : i + k = j
    · subst e
      rw [getL_set_self _ _ _ _ (by omega)]
      have := h.ahead (i + k) (Nat.le_refl _)
      have := h.up (i + k)
      omega
    · rw [getL_set_ne _ _ _ _ _ e]
      exact h.up j
  · rw [getL_set_ne _ _ _ _ _ (by omega)]
    exact h.ahead j (by omega)
theorem rowOk.row {x y r : List Int} {i k : Nat} (h : rowOk x y r i k) (hk : y.length ≤ k) : rowOk x y r (i + 1) 0 := by
  refine ⟨h.len, by rw [h.val, rowV_row _ _ _ _ hk], fun j => ?_, fun j _ => ?_⟩
  · have := h.up j
    omega
  · have := h.up j
    omega

theorem bldS (x0 : Bool) (l : AM.Loc) (o n : Nat) (c : AM.Cap) : pBuild Tryz.prog 40 [(0, .bool x0), (1, .slice l o n c)] = ⟨True, .agg [.bool x0, .slice l o n c]⟩ := bld40_0_1 _ _ (of_eq_true (Sc_slice l o n c))
set_option maxHeartbeats 2000000 in
theorem c_mul (w₀ : World) (h : AHeap) (n1 n2 : Bool) (z1 z2 : AVal) (x y : List Int) (hz1 : HoldsZ h z1 x) (hz2 : HoldsZ h z2 y) (hx : digZ x) (hy : digZ y) (hN : x.length + y.length ≤ 10000) :
    ACall Tryz.prog w₀ 22 [.agg [.bool n1, z1], .agg [.bool n2, z2]] h (fun v h' => (∃ z o, v = .agg [.bool (n1 != n2), z] ∧ HoldsZ h' z o ∧ digZ o ∧ leV o = leV x * leV y ∧ o.length ≤ x.length + y.length) ∧ Sub h h') := by
  have hl1 := hz1.live
  have hl2 := hz2.live
  obtain ⟨bx0, bx1⟩ := leV_bound x hx
  obtain ⟨by0, by1⟩ := leV_bound y hy
  have eN : ((x.length : Int) + (y.length : Int)).toNat = x.length + y.length := by omega
  refine acall_intro (n := 58) (rs := [.cell 4 40]) Tryz.func22 rfl rfl rfl rfl (Nat.le_of_ble_eq_true rfl) ?_
  simp only [initSlots]
  -- region 0  law.go:115
  refine awp_rseq [2, 3, 4] (by rfl) fun K hK => ?_
  refine aOps_box (by rfl) (by rfl) (by rfl) fun k0q0 hk0q0 => ?_
  try have hf_0q0 : h k0q0 = none := by first | assumption | (simp only [AHeap.set_none] at hk0q0; simp only [hk0q0])
  skip
  refine aOps_box (by rfl) (by rfl) (by rfl) fun k0q1 hk0q1 => ?_
  have ne_0q1_0q0 : k0q1 ≠ k0q0 := by simp only [AHeap.set_none] at hk0q1; simp only [hk0q1, ne_eq, not_false_eq_true]
  try have hf_0q1 : h k0q1 = none := by first | assumption | (simp only [AHeap.set_none] at hk0q1; simp only [hk0q1])
  skip
  refine aOps_alloc ze40 (cs := [.bool false, .nilSlice]) (by rfl) fun k0q2 hk0q2 => ?_
  have ne_0q2_0q0 : k0q2 ≠ k0q0 := by simp only [AHeap.set_none] at hk0q2; simp only [hk0q2, ne_eq, not_false_eq_true]
  have ne_0q2_0q1 : k0q2 ≠ k0q1 := by simp only [AHeap.set_none] at hk0q2; simp only [hk0q2, ne_eq, not_false_eq_true]
  try have hf_0q2 : h k0q2 = none := by first | assumption | (simp only [AHeap.set_none] at hk0q2; simp only [hk0q2])
  simp (decide := true) only [aOps_nil, ev, putD, Slots.put, Slots.get, Slots.keep, if_true, if_false, AVal.cells, Nat.zero_add]
  repeat (with_reducible refine And.intro ?_ ?_; · first | trivial | omega | (intro hg; simp only [Bool.and_eq_true, Bool.or_eq_true, Bool.not_eq_true', Bool.and_eq_false_iff, Bool.or_eq_false_iff, Bool.not_eq_false', decide_eq_true_eq, decide_eq_false_iff_not, eqNil] at hg; omega) | (simp only [List.length_append, List.length_map, List.length_range, List.length_replicate, List.length_take, List.length_drop, List.length_cons, List.length_nil, List.length_set, List.length_reverse]; omega))
  apply hK; clear hK K
  -- region 1  law.go:116
  refine awp_dseq_F 15 [] [2, 3, 4, 5] mixed (by kernel_rfl) (by rfl) fun K hK => ?_
  simp only [List.take_succ_cons, List.take_zero, List.drop_succ_cons, List.drop_zero]
  simp (decide := true) only [ev, putD, Slots.put, Slots.get, if_true, if_false, true_and, ↓fp_fieldAddr, pop_fieldAddr, fa40_0, ↓fp_load, pop_load, pLoad_one ag4, ↓fp_binOp, pop_binOp, isNilC_tmp, cond_false, pBinX_bne, Tryz.underlying4, fa40_1, pLoad_one ag38, ↓fp_len, pop_len, pBinX_int, pI_add, rd_ne', ne_eq, not_false_eq_true, ne_0q1_0q0.symm, ne_0q2_0q0.symm, ne_0q2_0q1.symm, rd_any, List.getD_cons_zero, List.getD_cons_succ, Nat.zero_add, lv_bool, hl1, hl2, hz1.len Tryz.underlying38, hz2.len Tryz.underlying38]
  try simp (disch := omega) only [wrap_i64]
  repeat (with_reducible refine And.intro ?_ ?_; · first | trivial | omega | (intro hg; simp only [Bool.and_eq_true, Bool.or_eq_true, Bool.not_eq_true', Bool.and_eq_false_iff, Bool.or_eq_false_iff, Bool.not_eq_false', decide_eq_true_eq, decide_eq_false_iff_not, eqNil] at hg; omega) | (simp only [List.length_append, List.length_map, List.length_range, List.length_replicate, List.length_take, List.length_drop, List.length_cons, List.length_nil, List.length_set, List.length_reverse]; omega))
  refine fOps_lay (by rfl) ?_
  refine aOps_makeInts Tryz.underlying38 sz3 by3 ze3 (by rfl) (by rfl) (by omega) (by omega) fun k1 hk1 => ?_
  have ne_1_0q0 : k1 ≠ k0q0 := by simp only [AHeap.set_none] at hk1; simp only [hk1, ne_eq, not_false_eq_true]
  have ne_1_0q1 : k1 ≠ k0q1 := by simp only [AHeap.set_none] at hk1; simp only [hk1, ne_eq, not_false_eq_true]
  have ne_1_0q2 : k1 ≠ k0q2 := by simp only [AHeap.set_none] at hk1; simp only [hk1, ne_eq, not_false_eq_true]
  try have hf_1 : h k1 = none := by first | assumption | (simp only [AHeap.set_none] at hk1; simp only [hk1])
  rw [aOps_nil]
  simp (decide := true) only [ev, absV, absS, putD, Slots.put, Slots.get, if_true, if_false, true_and, ↓fp_build, ↓pop_buildL, bld40_0_1, evP, List.map_cons, List.map_nil, Sc_slice, eN]
  repeat (with_reducible refine And.intro ?_ ?_; · first | trivial | omega | (intro hg; simp only [Bool.and_eq_true, Bool.or_eq_true, Bool.not_eq_true', Bool.and_eq_false_iff, Bool.or_eq_false_iff, Bool.not_eq_false', decide_eq_true_eq, decide_eq_false_iff_not, eqNil] at hg; omega) | (simp only [List.length_append, List.length_map, List.length_range, List.length_replicate, List.length_take, List.length_drop, List.length_cons, List.length_nil, List.length_set, List.length_reverse]; omega))
  refine fOps_lay (by rfl) ?_
  refine aOps_alloc ze40 (cs := [.bool false, .nilSlice]) (by rfl) fun k1q14 hk1q14 => ?_
  have ne_1q14_0q0 : k1q14 ≠ k0q0 := by simp only [AHeap.set_none] at hk1q14; simp only [hk1q14, ne_eq, not_false_eq_true]
  have ne_1q14_0q1 : k1q14 ≠ k0q1 := by simp only [AHeap.set_none] at hk1q14; simp only [hk1q14, ne_eq, not_false_eq_true]
  have ne_1q14_0q2 : k1q14 ≠ k0q2 := by simp only [AHeap.set_none] at hk1q14; simp only [hk1q14, ne_eq, not_false_eq_true]
  have ne_1q14_1 : k1q14 ≠ k1 := by simp only [AHeap.set_none] at hk1q14; simp only [hk1q14, ne_eq, not_false_eq_true]
  try have hf_1q14 : h k1q14 = none := by first | assumption | (simp only [AHeap.set_none] at hk1q14; simp only [hk1q14])
  rw [aOps_nil]
  repeat (with_reducible refine And.intro ?_ ?_; · first | trivial | omega | (intro hg; simp only [Bool.and_eq_true, Bool.or_eq_true, Bool.not_eq_true', Bool.and_eq_false_iff, Bool.or_eq_false_iff, Bool.not_eq_false', decide_eq_true_eq, decide_eq_false_iff_not, eqNil] at hg; omega) | (simp only [List.length_append, List.length_map, List.length_range, List.length_replicate, List.length_take, List.length_drop, List.length_cons, List.length_nil, List.length_set, List.length_reverse]; omega))
  try simp only [fOps_nil]
  refine aOps_store (by rfl) (by rfl) (by repeat (first | exact AHeap.set_same _ _ _ | assumption | refine (AHeap.set_ne _ _ (by first | assumption | exact Ne.symm (by assumption))).trans ?_)) sz40 (by rfl) (by rfl) (by first | exact Nat.le_refl _ | decide | (simp; done) | (simp; omega)) (Nat.zero_le _) (by rfl) ?_
  simp only [AHeap.set_set, AVal.cells]
  simp (decide := true) only [aOps_nil, ev, putD, Slots.put, Slots.get, Slots.keep, if_true, if_false, setAt, List.set_cons_zero, List.set_cons_succ, Nat.zero_add]
  repeat (with_reducible refine And.intro ?_ ?_; · first | trivial | omega | (intro hg; simp only [Bool.and_eq_true, Bool.or_eq_true, Bool.not_eq_true', Bool.and_eq_false_iff, Bool.or_eq_false_iff, Bool.not_eq_false', decide_eq_true_eq, decide_eq_false_iff_not, eqNil] at hg; omega) | (simp only [List.length_append, List.length_map, List.length_range, List.length_replicate, List.length_take, List.length_drop, List.length_cons, List.length_nil, List.length_set, List.length_reverse]; omega))
  apply hK; clear hK K
  refine awp_seq ?_
  -- region 2  law.go:117
  refine awp_rseq [2, 3, 4, 5, 6] (by rfl) fun K hK => ?_
  simp (decide := true) only [aOps_nil, ev, absV, absS, putD, Slots.put, Slots.keep, if_true, if_false, true_and, ↓ap_assign, pop_assign]
  repeat (with_reducible refine And.intro ?_ ?_; · first | trivial | omega | (intro hg; simp only [Bool.and_eq_true, Bool.or_eq_true, Bool.not_eq_true', Bool.and_eq_false_iff, Bool.or_eq_false_iff, Bool.not_eq_false', decide_eq_true_eq, decide_eq_false_iff_not, eqNil] at hg; omega) | (simp only [List.length_append, List.length_map, List.length_range, List.length_replicate, List.length_take, List.length_drop, List.length_cons, List.length_nil, List.length_set, List.length_reverse]; omega))
  apply hK; clear hK K
  refine awp_block ?_
  refine awp_loopG [2, 3, 4, 5, 6] (fun g : Nat × List Int => [(2, .ptr (.own k0q0) 0), (3, .ptr (.own k0q1) 0), (4, .ptr (.own k0q2) 0), (5, .ptr (.own k1q14) 0), (6, .int .i64 g.1)]) (fun g : Nat × List Int => (((((h.set k0q0 ⟨[.bool n1, z1], 0⟩).set k0q1 ⟨[.bool n2, z2], 0⟩).set k0q2 ⟨[.bool false, .nilSlice], 0⟩).set k1 ⟨intCells g.2, 0⟩).set k1q14 ⟨[.bool (n1 != n2), .slice (.own k1) 0 (x.length + y.length) (.exact (x.length + y.length))], 0⟩)) (fun g : Nat × List Int => rowOk x y g.2 g.1 0 ∧ g.1 ≤ x.length) (fun g : Nat × List Int => x.length - g.1) (0, List.replicate (x.length + y.length) 0) (by rfl) (Sub.refl _) ⟨rowOk.start x y, Nat.zero_le _⟩ ?_
  rintro ⟨i, r⟩ ⟨hr, hi⟩
  simp only at hr hi ⊢
  refine awp_seq ?_
  -- region 3  law.go:117
  refine awp_rseq [2, 3, 4, 5, 6, 26] (by rfl) fun K hK => ?_
  simp (decide := true) only [aOps_nil, ev, putD, Slots.put, Slots.get, Slots.keep, if_true, if_false, true_and, ↓ap_move, pop_move, ↓ap_fieldAddr, pop_fieldAddr, fa40_1, ↓ap_loadL, apL_mk, pLoad_one ag38, ↓ap_len, pop_len, ↓ap_binOp, pop_binOp, isNilC_tmp, cond_false, pBinX_int, pI_lss, rd_ne', ne_eq, not_false_eq_true, ne_0q1_0q0.symm, ne_0q2_0q0.symm, ne_1_0q0.symm, ne_1q14_0q0.symm, rd_any, List.getD_cons_zero, List.getD_cons_succ, Nat.zero_add, hl1, hz1.len Tryz.underlying38]
  repeat (with_reducible refine And.intro ?_ ?_; · first | trivial | omega | (intro hg; simp only [Bool.and_eq_true, Bool.or_eq_true, Bool.not_eq_true', Bool.and_eq_false_iff, Bool.or_eq_false_iff, Bool.not_eq_false', decide_eq_true_eq, decide_eq_false_iff_not, eqNil] at hg; omega) | (simp only [List.length_append, List.length_map, List.length_range, List.length_replicate, List.length_take, List.length_drop, List.length_cons, List.length_nil, List.length_set, List.length_reverse]; omega))
  apply hK; clear hK K
  refine awp_cond (b := _) rfl (fun hb1 => ?_) (fun hb1 => ?_)
  · try simp only [decide_eq_true_eq] at hb1
    obtain ⟨kx, cx, ez1, hkx⟩ := hz1.resolve_left (fun e => by rw [e.2] at hb1; simp at hb1; omega)
    have nx0 : kx ≠ k0q0 := fun e => by rw [e, hf_0q0] at hkx; cases hkx
    have nx1 : kx ≠ k0q1 := fun e => by rw [e, hf_0q1] at hkx; cases hkx
    have nx2 : kx ≠ k0q2 := fun e => by rw [e, hf_0q2] at hkx; cases hkx
    have nx3 : kx ≠ k1 := fun e => by rw [e, hf_1] at hkx; cases hkx
    have nx4 : kx ≠ k1q14 := fun e => by rw [e, hf_1q14] at hkx; cases hkx
    have ix : ∀ v, pIndexAddr Tryz.prog 38 z1 v = pIndexAddr Tryz.prog 38 (.slice (.own kx) 0 x.length cx) v := fun v => by rw [ez1]
    have gx : (intCells x).getD i .dead = .int .i64 (x.getD i 0) := intCells_getD (by omega)
    refine awp_skip ?_
    change Awp _ _ _ _ _ _ _
    refine awp_seq ?_
    refine awp_block ?_
    -- region 5  law.go:118
    refine awp_rseq [2, 3, 4, 5, 6, 7] (by rfl) fun K hK => ?_
    simp (decide := true) only [aOps_nil, ev, absV, absS, putD, Slots.put, Slots.keep, if_true, if_false, true_and, ↓ap_assign, pop_assign]
    repeat (with_reducible refine And.intro ?_ ?_; · first | trivial | omega | (intro hg; simp only [Bool.and_eq_true, Bool.or_eq_true, Bool.not_eq_true', Bool.and_eq_false_iff, Bool.or_eq_false_iff, Bool.not_eq_false', decide_eq_true_eq, decide_eq_false_iff_not, eqNil] at hg; omega) | (simp only [List.length_append, List.length_map, List.length_range, List.length_replicate, List.length_take, List.length_drop, List.length_cons, List.length_nil, List.length_set, List.length_reverse]; omega))
    apply hK; clear hK K
    refine awp_block ?_
    refine awp_loopG [2, 3, 4, 5, 6, 7] (fun g : Nat × List Int => [(2, .ptr (.own k0q0) 0), (3, .ptr (.own k0q1) 0), (4, .ptr (.own k0q2) 0), (5, .ptr (.own k1q14) 0), (6, .int .i64 i), (7, .int .i64 g.1)]) (fun g : Nat × List Int => (((((h.set k0q0 ⟨[.bool n1, z1], 0⟩).set k0q1 ⟨[.bool n2, z2], 0⟩).set k0q2 ⟨[.bool false, .nilSlice], 0⟩).set k1 ⟨intCells g.2, 0⟩).set k1q14 ⟨[.bool (n1 != n2), .slice (.own k1) 0 (x.length + y.length) (.exact (x.length + y.length))], 0⟩)) (fun g : Nat × List Int => rowOk x y g.2 i g.1 ∧ g.1 ≤ y.length) (fun g : Nat × List Int => y.length - g.1) (0, r) (by rfl) (Sub.refl _) ⟨hr, Nat.zero_le _⟩ ?_
    clear hr
    rintro ⟨k, r⟩ ⟨hr, hk⟩
    simp only at hr hk ⊢
    refine awp_seq ?_
    -- region 6  law.go:118
    refine awp_rseq [2, 3, 4, 5, 6, 7, 33] (by rfl) fun K hK => ?_
    simp (decide := true) only [aOps_nil, ev, putD, Slots.put, Slots.get, Slots.keep, if_true, if_false, true_and, ↓ap_move, pop_move, ↓ap_fieldAddr, pop_fieldAddr, fa40_1, ↓ap_loadL, apL_mk, pLoad_one ag38, ↓ap_len, pop_len, ↓ap_binOp, pop_binOp, isNilC_tmp, cond_false, pBinX_int, pI_lss, rd_ne', ne_eq, not_false_eq_true, ne_0q2_0q1.symm, ne_1_0q1.symm, ne_1q14_0q1.symm, rd_any, List.getD_cons_zero, List.getD_cons_succ, Nat.zero_add, hl2, hz2.len Tryz.underlying38]
    repeat (with_reducible refine And.intro ?_ ?_; · first | trivial | omega | (intro hg; simp only [Bool.and_eq_true, Bool.or_eq_true, Bool.not_eq_true', Bool.and_eq_false_iff, Bool.or_eq_false_iff, Bool.not_eq_false', decide_eq_true_eq, decide_eq_false_iff_not, eqNil] at hg; omega) | (simp only [List.length_append, List.length_map, List.length_range, List.length_replicate, List.length_take, List.length_drop, List.length_cons, List.length_nil, List.length_set, List.length_reverse]; omega))
    apply hK; clear hK K
    refine awp_cond (b := _) rfl (fun hb2 => ?_) (fun hb2 => ?_)
    · try simp only [decide_eq_true_eq] at hb2
      obtain ⟨ky, cy, ez2, hky⟩ := hz2.resolve_left (fun e => by rw [e.2] at hb2; simp at hb2; omega)
      have ny0 : ky ≠ k0q0 := fun e => by rw [e, hf_0q0] at hky; cases hky
      have ny1 : ky ≠ k0q1 := fun e => by rw [e, hf_0q1] at hky; cases hky
      have ny2 : ky ≠ k0q2 := fun e => by rw [e, hf_0q2] at hky; cases hky
      have ny3 : ky ≠ k1 := fun e => by rw [e, hf_1] at hky; cases hky
      have ny4 : ky ≠ k1q14 := fun e => by rw [e, hf_1q14] at hky; cases hky
      have iy : ∀ v, pIndexAddr Tryz.prog 38 z2 v = pIndexAddr Tryz.prog 38 (.slice (.own ky) 0 y.length cy) v := fun v => by rw [ez2]
      have gy : (intCells y).getD k .dead = .int .i64 (y.getD k 0) := intCells_getD (by omega)
      have hrl := hr.len
      have gr : (intCells r).getD (i + k) .dead = .int .i64 (r.getD (i + k) 0) := intCells_getD (by omega)
      have eik : ((i : Int) + (k : Int)).toNat = i + k := by omega
      obtain ⟨a0, a9⟩ := hx.at i
      obtain ⟨b0, b9⟩ := hy.at k
      have p0 : 0 ≤ x.getD i 0 * y.getD k 0 := Int.mul_nonneg a0 b0
      have p1 : x.getD i 0 * y.getD k 0 ≤ 9 * 9 := Int.mul_le_mul a9 b9 b0 (by decide)
      have hup := hr.up (i + k)
      have exy : IntKind.i64.wrap (x.getD i 0 * y.getD k 0) = x.getD i 0 * y.getD k 0 := wrap_i64 (by omega) (by omega)
      have exs : IntKind.i64.wrap (r.getD (i + k) 0 + x.getD i 0 * y.getD k 0) = r.getD (i + k) 0 + x.getD i 0 * y.getD k 0 := wrap_i64 (by omega) (by omega)
      refine awp_skip ?_
      change Awp _ _ _ _ _ _ _
      refine awp_seq ?_
      refine awp_block ?_
      -- region 8  law.go:119
      refine awp_draw_tail 20 mixed (by kernel_rfl) (by rfl) (by rfl) ?_
      simp (decide := true) only [ev, putD, Slots.put, Slots.get, if_true, if_false, true_and, ↓ap_fieldAddr, pop_fieldAddr, fa40_1, ↓ap_loadL, apL_mk, pLoad_one ag38, ↓ap_move, pop_move, ↓ap_binOp, pop_binOp, isNilC_tmp, cond_false, pBinX_int, pI_add, rd_any, List.getD_cons_zero, List.getD_cons_succ, Nat.zero_add, lv_slice, Nat.zero_add]
      try simp (disch := omega) only [wrap_i64]
      try simp (decide := true) only [ev, putD, Slots.put, Slots.get, if_true, if_false, true_and, ↓ap_indexAddrL, apL_mk, pIndexAddr_slice Tryz.underlying38 sz3, ↓ap_loadL, pLoad_one ag3, ↓ap_fieldAddr, pop_fieldAddr, fa40_1, pLoad_one ag38, ↓ap_move, pop_move, ↓ap_binOp, pop_binOp, isNilC_tmp, cond_false, pBinX_int, pI_mul, pI_add, rd_ne', ne_eq, not_false_eq_true, ne_0q1_0q0.symm, ne_0q2_0q0.symm, ne_0q2_0q1.symm, ne_1_0q0.symm, ne_1_0q1.symm, ne_1q14_0q0.symm, ne_1q14_0q1.symm, ne_1q14_1.symm, rd_any, List.getD_cons_zero, List.getD_cons_succ, Nat.zero_add, lv_int, hl1, hl2, ix, iy, eik, gx, gy, gr, exy, exs, Int.toNat_natCast, Nat.mul_one, Nat.zero_add, nx0, nx1, nx2, nx3, nx4, ny0, ny1, ny2, ny3, ny4, rd_own w₀ hkx, rd_own w₀ hky]
      try simp (disch := omega) only [wrap_i64, wrap_u8]
      try simp (decide := true) only [aOps_nil, vOps_nil, fOps_nil, kOps_nil, ev, absV, absS, putD, Slots.put, Slots.get, Slots.keep, if_true, if_false, List.contains_cons, List.contains_nil, true_and, and_true, ↓ap_indexAddrL, apL_mk, pIndexAddr_slice Tryz.underlying38 sz3, rd_ne', ne_eq, not_false_eq_true, ne_0q1_0q0, ne_0q1_0q0.symm, ne_0q2_0q0, ne_0q2_0q0.symm, ne_0q2_0q1, ne_0q2_0q1.symm, ne_1_0q0, ne_1_0q0.symm, ne_1_0q1, ne_1_0q1.symm, ne_1_0q2, ne_1_0q2.symm, ne_1q14_0q0, ne_1q14_0q0.symm, ne_1q14_0q1, ne_1q14_0q1.symm, ne_1q14_0q2, ne_1q14_0q2.symm, ne_1q14_1, ne_1q14_1.symm, rd_any, AVal.cells, setAt, List.set_cons_zero, List.set_cons_succ, cellsAt, List.getD_cons_zero, List.getD_cons_succ, Nat.zero_add, Nat.reduceAdd, lv_bool, lv_int, lv_str, lv_nilPtr, lv_ptr, lv_nilSlice, lv_slice, lv_nilFunc, lv_func, lv_nilIface, lv_iface, lv_nilMap, lv_agg, lv_tuple, allLive, Bool.and_true, decA, hl1, hl2, hz1.len Tryz.underlying38, hz2.len Tryz.underlying38, ix, iy, eik, gx, gy, gr, exy, exs, Int.toNat_natCast, Nat.mul_one, Nat.zero_add, nx0, nx1, nx2, nx3, nx4, ny0, ny1, ny2, ny3, ny4, rd_own w₀ hkx, rd_own w₀ hky]
      repeat (with_reducible refine And.intro ?_ ?_; · first | trivial | omega | (intro hg; simp only [Bool.and_eq_true, Bool.or_eq_true, Bool.not_eq_true', Bool.and_eq_false_iff, Bool.or_eq_false_iff, Bool.not_eq_false', decide_eq_true_eq, decide_eq_false_iff_not, eqNil] at hg; omega) | (simp only [List.length_append, List.length_map, List.length_range, List.length_replicate, List.length_take, List.length_drop, List.length_cons, List.length_nil, List.length_set, List.length_reverse]; omega))
      refine aOps_store (v := .int .i64 (r.getD (i + k) 0 + x.getD i 0 * y.getD k 0)) (by rfl) (by rfl) ((AHeap.set_ne _ _ ne_1q14_1.symm).trans (AHeap.set_same _ _ _)) sz3 (by rfl) (by rfl) (by rw [intCells_length]; omega) (Nat.zero_le _) (by rfl) ?_
      simp only [AVal.cells]
      rw [setAt_intCells, AHeap.set_comm _ _ _ ne_1q14_1.symm, AHeap.set_set]
      simp (decide := true) only [aOps_nil, putD]
      repeat (with_reducible refine And.intro ?_ ?_; · first | trivial | omega | (intro hg; simp only [Bool.and_eq_true, Bool.or_eq_true, Bool.not_eq_true', Bool.and_eq_false_iff, Bool.or_eq_false_iff, Bool.not_eq_false', decide_eq_true_eq, decide_eq_false_iff_not, eqNil] at hg; omega) | (simp only [List.length_append, List.length_map, List.length_range, List.length_replicate, List.length_take, List.length_drop, List.length_cons, List.length_nil, List.length_set, List.length_reverse]; omega))
      change Awp _ _ _ _ _ _ _
      -- region 7  law.go:118
      refine awp_r [2, 3, 4, 5, 6, 7] (by rfl) ?_
      simp (decide := true) only [aOps_nil, ev, absV, absS, putD, Slots.put, Slots.get, Slots.keep, if_true, if_false, true_and, ↓ap_move, pop_move, ↓ap_binOp, pop_binOp, isNilC_int, cond_false, pBinX_int, pI_add, ↓ap_assign, pop_assign]
      try simp (disch := omega) only [wrap_i64]
      repeat (with_reducible refine And.intro ?_ ?_; · first | trivial | omega | (intro hg; simp only [Bool.and_eq_true, Bool.or_eq_true, Bool.not_eq_true', Bool.and_eq_false_iff, Bool.or_eq_false_iff, Bool.not_eq_false', decide_eq_true_eq, decide_eq_false_iff_not, eqNil] at hg; omega) | (simp only [List.length_append, List.length_map, List.length_range, List.length_replicate, List.length_take, List.length_drop, List.length_cons, List.length_nil, List.length_set, List.length_reverse]; omega))
      try simp only [thenA_normal]
      refine ⟨(k + 1, r.set (i + k) (r.getD (i + k) 0 + x.getD i 0 * y.getD k 0)), rfl, ?_, ⟨hr.next hx hy (by omega) (by omega), by simp only; omega⟩, by simp only; omega⟩
      exact Sub.refl _
    · try simp only [decide_eq_false_iff_not] at hb2
      refine awp_exit ?_
      change Awp _ _ _ _ _ _ _
      -- region 4  law.go:117
      refine awp_r [2, 3, 4, 5, 6] (by rfl) ?_
      simp (decide := true) only [aOps_nil, ev, absV, absS, putD, Slots.put, Slots.get, Slots.keep, if_true, if_false, true_and, ↓ap_move, pop_move, ↓ap_binOp, pop_binOp, isNilC_int, cond_false, pBinX_int, pI_add, ↓ap_assign, pop_assign]
      try simp (disch := omega) only [wrap_i64]
      repeat (with_reducible refine And.intro ?_ ?_; · first | trivial | omega | (intro hg; simp only [Bool.and_eq_true, Bool.or_eq_true, Bool.not_eq_true', Bool.and_eq_false_iff, Bool.or_eq_false_iff, Bool.not_eq_false', decide_eq_true_eq, decide_eq_false_iff_not, eqNil] at hg; omega) | (simp only [List.length_append, List.length_map, List.length_range, List.length_replicate, List.length_take, List.length_drop, List.length_cons, List.length_nil, List.length_set, List.length_reverse]; omega))
      try simp only [thenA_normal]
      refine ⟨(i + 1, r), rfl, Sub.refl _, ⟨hr.row (by omega), by simp only; omega⟩, by simp only; omega⟩
  · try simp only [decide_eq_false_iff_not] at hb1
    have hv : leV r = leV x * leV y := by
      rw [hr.val, show i = x.length by omega]
      unfold rowV
      rw [List.take_of_length_le (Nat.le_refl _)]
      simp [leV, valL]
    have hvl : leV r < 10 ^ (x.length + y.length) := by
      rw [hv, Int.pow_add]
      have h1 : leV x * leV y ≤ leV x * 10 ^ y.length := Int.mul_le_mul_of_nonneg_left (by omega) bx0
      have h2 : leV x * 10 ^ y.length < 10 ^ x.length * 10 ^ y.length := Int.mul_lt_mul_of_pos_right bx1 (Int.pow_pos (by decide))
      omega
    have hsm : smallZ 1000000 r := fun j => by
      have := hr.up j
      omega
    refine awp_exit ?_
    change Awp _ _ _ _ _ _ _
    -- region 9  law.go:122
    refine awp_rseq [4] (by rfl) fun K hK => ?_
    simp (decide := true) only [ev, putD, Slots.put, Slots.get, if_true, if_false, true_and, ↓ap_loadL, apL_mk, pLoad_agg ag40 sz40, rd_any, cellsAt, List.getD_cons_zero, List.getD_cons_succ, Nat.zero_add, lv_bool, lv_slice, allLive, Bool.and_true]
    repeat (with_reducible refine And.intro ?_ ?_; · first | trivial | omega | (intro hg; simp only [Bool.and_eq_true, Bool.or_eq_true, Bool.not_eq_true', Bool.and_eq_false_iff, Bool.or_eq_false_iff, Bool.not_eq_false', decide_eq_true_eq, decide_eq_false_iff_not, eqNil] at hg; omega) | (simp only [List.length_append, List.length_map, List.length_range, List.length_replicate, List.length_take, List.length_drop, List.length_cons, List.length_nil, List.length_set, List.length_reverse]; omega))
    refine aOps_call (by rfl) (by rfl) (c_settled w₀ _ (n1 != n2) (.slice (.own k1) 0 (x.length + y.length) (.exact (x.length + y.length))) r (.inr ⟨k1, .exact (x.length + y.length), by rw [hr.len], (AHeap.set_ne _ _ ne_1q14_1.symm).trans (AHeap.set_same _ _ _)⟩) 1000000 (by decide) (by decide) hsm (x.length + y.length) (by rw [hr.len]; exact Nat.le_refl _) (by omega) hvl (by rw [hv]; exact Int.mul_nonneg bx0 by0)) fun x9q1 h9q1 hx9q1 => ?_
    obtain ⟨⟨z', o, rfl, hzo, hdo, hvo, hlo⟩, hsub⟩ := hx9q1
    have hlo1 := hzo.live
    refine aOps_store (v := .agg [.bool (n1 != n2), z']) (by rfl) (by rfl) (hsub _ _ ((AHeap.set_ne _ _ ne_1q14_0q2.symm).trans ((AHeap.set_ne _ _ ne_1_0q2.symm).trans (AHeap.set_same _ _ _)))) sz40 (by rfl) (by rfl) (Nat.le_refl _) (Nat.zero_le _) (scal_big hzo.scal) ?_
    simp only [setAt, AVal.cells, List.length_nil, List.set_cons_zero, List.set_cons_succ, Nat.zero_add]
    simp (decide := true) only [aOps_nil, putD, Slots.put, Slots.keep, if_true, if_false]
    repeat (with_reducible refine And.intro ?_ ?_; · first | trivial | omega | (intro hg; simp only [Bool.and_eq_true, Bool.or_eq_true, Bool.not_eq_true', Bool.and_eq_false_iff, Bool.or_eq_false_iff, Bool.not_eq_false', decide_eq_true_eq, decide_eq_false_iff_not, eqNil] at hg; omega) | (simp only [List.length_append, List.length_map, List.length_range, List.length_replicate, List.length_take, List.length_drop, List.length_cons, List.length_nil, List.length_set, List.length_reverse]; omega))
    apply hK; clear hK K
    refine awp_ret ?_
    try simp only [thenA_ret, inBlockA_ret]
    refine retA_retE (?_) ?_
    · simp (decide := true) only [resPre, resV_cell, Slots.get, if_true, and_true, resV_cell, pLoad_agg ag40 sz40, rd_set, cellsAt, List.getD_cons_zero, List.getD_cons_succ, Nat.zero_add, lv_bool, allLive, Bool.and_true, Bool.true_and, cellsAt, List.getD_cons_zero, List.getD_cons_succ, Nat.zero_add, lv_bool, allLive, Bool.and_true]
      exact hlo1
    simp (decide := true) only [Slots.get, if_true, resOfG_one, resV_cell, pLoad_agg ag40 sz40, rd_set, cellsAt, List.getD_cons_zero, List.getD_cons_succ, Nat.zero_add, lv_bool, allLive, Bool.and_true, Bool.true_and, cellsAt, List.getD_cons_zero, List.getD_cons_succ, Nat.zero_add, lv_bool, allLive, Bool.and_true]
    refine ⟨_, Sub.refl _, ⟨z', o, rfl, hzo.set_bool (hsub _ _ ((AHeap.set_ne _ _ ne_1q14_0q2.symm).trans ((AHeap.set_ne _ _ ne_1_0q2.symm).trans (AHeap.set_same _ _ _)))) _, hdo, by rw [hvo, hv], hlo⟩, Sub.trans_set (Sub.trans ?_ hsub) hf_0q2⟩
    exact (by repeat (first | exact Sub.refl _ | refine Sub.trans_set ?_ (by assumption)))
end Go.Proofs.YthiiakghjoeikaaGreatDoor

/-
  An assertion layer over the model's wp, part Y: statements of open order whose calls are chained and leave the told heap, with reading operations between them (rule H).
  Conditions: none. Nothing here is about a particular program.
-/
namespace Go.AM
open Go.RowKit (Below)
section
variable {P : Program} {w₀ : World} {n : Nat}

/-- Operations in an order of our own; the first m leave what is told of the heap. -/
def hOps (P : Program) (w₀ : World) (l : List Oper) : Nat → List Oper → Slots → AHeap → (Slots → AHeap → Prop) → Prop
  | _, [], s, h, K => K s h
  | 0, o :: r, s, h, K => aOps P w₀ l (o :: r) s h K
  | m + 1, o :: r, s, h, K => aOps P w₀ l [o] s h fun s' h' => Sub h h' ∧ hOps P w₀ l m r s' h' K
theorem hOps_nil {l : List Oper} {m : Nat} {s : Slots} {h : AHeap} {K : Slots → AHeap → Prop} : hOps P w₀ l m [] s h K = K s h := by cases m <;> rfl
theorem hOps_cons {l : List Oper} {m : Nat} {o : Oper} {r : List Oper} {s : Slots} {h : AHeap} {K : Slots → AHeap → Prop} : hOps P w₀ l (m + 1) (o :: r) s h K = aOps P w₀ l [o] s h fun s' h' => Sub h h' ∧ hOps P w₀ l m r s' h' K := rfl
theorem hOps_zero {l : List Oper} {o : Oper} {r : List Oper} {s : Slots} {h : AHeap} {K : Slots → AHeap → Prop} : hOps P w₀ l 0 (o :: r) s h K = aOps P w₀ l (o :: r) s h K := rfl
theorem AHeap.ne_some {h : AHeap} {k j : Nat} {b : Blk} (hk : h k = none) (hj : h j = some b) : k ≠ j := fun e => by subst e; rw [hk] at hj; cases hj
theorem Sub_self (h : AHeap) : Sub h h = True := eq_true (Sub.refl h)

theorem aOps_one {l : List Oper} {o : Oper} {r : List Oper} {s : Slots} {h : AHeap} {K : Slots → AHeap → Prop} (ha : aOps P w₀ l (o :: r) s h K) : aOps P w₀ l [o] s h fun s' h' => aOps P w₀ l r s' h' K := by
  simp only [aOps] at ha ⊢
  exact ha
theorem aOps1_mono {l : List Oper} {o : Oper} {s : Slots} {h : AHeap} {K K' : Slots → AHeap → Prop} (hk : ∀ s h, K s h → K' s h) (ha : aOps P w₀ l [o] s h K) : aOps P w₀ l [o] s h K' := by
  simp only [aOps] at ha ⊢
  split
  · rename_i hg
    rw [hg] at ha
    exact eop_mono ha fun x h' hx => hk _ _ hx
  · rename_i j want hg
    rw [hg] at ha
    simp only at ha
    split
    · rename_i hj
      rw [hj] at ha
      exact hk _ _ ha
    · rename_i d hj
      rw [hj] at ha
      refine ⟨ha.1, ?_⟩
      have h2 := ha.2
      split
      · rename_i hp
        rw [if_pos hp] at h2
        exact ⟨h2.1, hk _ _ h2.2⟩
      · rename_i hp
        rw [if_neg hp] at h2
        exact ⟨fun e => eop_mono (h2.1 e) fun x h' hx => hk _ _ hx, fun e => hk _ _ (h2.2 e)⟩
theorem hOps_mono {l : List Oper} {K K' : Slots → AHeap → Prop} (hk : ∀ s h, K s h → K' s h) : ∀ {r : List Oper} {m : Nat} {s : Slots} {h : AHeap}, hOps P w₀ l m r s h K → hOps P w₀ l m r s h K'
  | [], m, s, h, ha => by rw [hOps_nil] at ha ⊢; exact hk _ _ ha
  | o :: r, 0, s, h, ha => awp_rseq.aOps_mono hk ha
  | o :: r, m + 1, s, h, ha => aOps1_mono (fun s' h' hx => ⟨hx.1, hOps_mono hk hx.2⟩) ha

/-- What the looked-at slots hold. -/
def LookOk (ψ : PMap) (n : Nat) (l : List Oper) (o : Oper) (S : Slots) (a : Act) : Prop := a.tmps.size = n ∧ a.defers = [] ∧ ∀ t ∈ looksL l o, VR ψ (S.get t) (a.tmps.getD t undef)
theorem LookOk.rel {ψ : PMap} {l : List Oper} {o : Oper} {S : Slots} {a : Act} (h : LookOk ψ n l o S a) : SRel ψ n (S.keep (looksL l o)) a := by
  refine ⟨h.1, h.2.1, fun t => ?_⟩
  rw [Slots.get_keep]
  by_cases ht : (looksL l o).contains t = true
  · rw [if_pos ht]; exact h.2.2 t (by simpa using ht)
  · rw [if_neg ht]; trivial
theorem guard_look {ψ : PMap} {l : List Oper} (hall : dstsOk n l = true) {o : Oper} {S : Slots} {a : Act} (h : LookOk ψ n l o S a) {j d : Nat} {want : Bool} (hg : o.guard = some (j, want)) (hj : nthDst l j = some d) (hk : gKnown (S.get d) = true) :
    Region.wanted o (yielded l.toArray a.tmps) = guardB (S.get d) want := by
  have hd : (S.keep (looksL l o)).get d = S.get d := by
    rw [Slots.get_keep, if_pos]
    simp [looksL, hg, hj]
  have := guard_ok h.rel l j d hj (nth_lt l j d hall hj) (by rw [hd]; exact hk) want
  rw [hd] at this
  simp only [Region.wanted, hg]
  exact this
theorem guard_never {l : List Oper} {o : Oper} {j : Nat} {want : Bool} {a : Act} (hg : o.guard = some (j, want)) (hj : nthDst l j = none) : Region.wanted o (yielded l.toArray a.tmps) = false := by
  have hd : (l.toArray[j]?).bind (·.dst) = none := by rw [← hj, nthDst_eq]; simp
  simp only [Region.wanted, hg, yielded, hd]
  rfl

/-- One operation is run. -/
theorem one_ok {l : List Oper} (hall : dstsOk n l = true) {o : Oper} {S : Slots} {g : AHeap} {K : Slots → AHeap → Prop} (ha : aOps P w₀ l [o] S g K) {ψ : PMap} {w : World} {a : Act} (hr : HRel w₀ ψ g w) (hl : LookOk ψ n l o S a)
    {next : Act → World → Prop} {Q : Exit → Act → World → Prop} (hn : ∀ ψ' x h' v w', ψ.le ψ' → HRel w₀ ψ' h' w' → VR ψ' x v → K (putD S o.dst x) h' → next (a.put o.dst v) w') :
    if Region.wanted o (yielded l.toArray a.tmps) = true then o.wp P a w next Q else next (a.put o.dst undef) w := by
  have hs := hl.rel
  have run : ∀ (K' : AVal → AHeap → Prop), eop P w₀ g S o.op K' → (∀ x h', K' x h' → K (putD S o.dst x) h') → o.wp P a w next Q := fun K' he hk => by
    rw [← eop_congr (s' := S.keep (looksL l o)) o.op (ev_mem fun t ht => by unfold looksL; exact List.mem_append_left _ ht)] at he
    exact eop_ok o he hr hs fun ψ' x h' v w' e1 e2 e3 e4 => hn ψ' x h' v w' e1 e2 e3 (hk x h' e4)
  have skip : K (putD S o.dst (.tuple [])) g → next (a.put o.dst undef) w := fun hk => hn ψ _ g undef w ψ.le_refl hr (VR_undef ψ) hk
  simp only [aOps] at ha
  cases hg : o.guard with
  | none =>
    simp only [hg] at ha
    have hw : Region.wanted o (yielded l.toArray a.tmps) = true := by simp [Region.wanted, hg]
    rw [if_pos hw]
    exact run _ ha fun _ _ hk => hk
  | some gw =>
    obtain ⟨j, want⟩ := gw
    simp only [hg] at ha
    cases hj : nthDst l j with
    | none =>
      simp only [hj] at ha
      rw [if_neg (by rw [guard_never hg hj]; decide)]
      exact skip ha
    | some d =>
      simp only [hj] at ha
      obtain ⟨hk, ha⟩ := ha
      rw [guard_look hall hl hg hj hk]
      split at ha
      · rename_i hp
        obtain ⟨h1, h2⟩ := ha
        cases hb : guardB (S.get d) want with
        | true =>
          simp only [hb, condV, cond_true] at h2
          simp only [if_true]
          exact run (fun x h' => x = (pop P w₀ g S o.op).val ∧ h' = g) ((eop_pure hp).2 ⟨h1 hb, rfl, rfl⟩) fun x h' ⟨e1, e2⟩ => by subst e1 e2; exact h2
        | false =>
          simp only [hb, condV, cond_false] at h2
          simp only [Bool.false_eq_true, if_false]
          exact skip h2
      · obtain ⟨h1, h2⟩ := ha
        cases hb : guardB (S.get d) want with
        | true =>
          simp only [if_true]
          exact run _ (h1 hb) fun _ _ hk => hk
        | false =>
          simp only [Bool.false_eq_true, if_false]
          exact skip (h2 hb)

/-- A reading operation gives the same wherever the told heap lies, and whenever it is run. -/
def FactR (P : Program) (w₀ : World) (n : Nat) (l : List Oper) (g : AHeap) (S : Slots) (o : Oper) (V : AVal) : Prop :=
  ∀ (ψ : PMap) (w : World) (a : Act) (g' : AHeap) (next : Act → World → Prop) (Q : Exit → Act → World → Prop), Sub g g' → HRel w₀ ψ g' w → LookOk ψ n l o S a → (∀ v, VR ψ V v → next (a.put o.dst v) w) →
    if Region.wanted o (yielded l.toArray a.tmps) = true then o.wp P a w next Q else next (a.put o.dst undef) w
theorem FactR.sub {l : List Oper} {g g' : AHeap} {S : Slots} {o : Oper} {V : AVal} (h : FactR P w₀ n l g S o V) (hs : Sub g g') : FactR P w₀ n l g' S o V :=
  fun ψ w a g₂ next Q h1 h2 h3 h4 => h ψ w a g₂ next Q (Sub.trans hs h1) h2 h3 h4
theorem FactR.slots {l : List Oper} {g : AHeap} {S S' : Slots} {o : Oper} {V : AVal} (h : FactR P w₀ n l g S o V) (hs : ∀ t ∈ looksL l o, S'.get t = S.get t) : FactR P w₀ n l g S' o V :=
  fun ψ w a g₂ next Q h1 h2 h3 h4 => h ψ w a g₂ next Q h1 h2 ⟨h3.1, h3.2.1, fun t ht => by rw [← hs t ht]; exact h3.2.2 t ht⟩ h4
theorem fact_of {l : List Oper} (hall : dstsOk n l = true) {o : Oper} (hk2 : kindF P o.op = 2) {S : Slots} {g : AHeap} {K : Slots → AHeap → Prop} (ha : aOps P w₀ l [o] S g K) : ∃ V, K (putD S o.dst V) g ∧ FactR P w₀ n l g S o V := by
  have hp := kindF_pure hk2
  have same : pop P w₀ g (S.keep (looksL l o)) o.op = pop P w₀ g S o.op := pop_congr o.op (ev_mem fun t ht => by unfold looksL; exact List.mem_append_left _ ht)
  have run : (pop P w₀ g S o.op).pre → ∀ (ψ : PMap) (w : World) (a : Act) (g' : AHeap) (next : Act → World → Prop) (Q : Exit → Act → World → Prop), Sub g g' → HRel w₀ ψ g' w → LookOk ψ n l o S a → (∀ v, VR ψ (pop P w₀ g S o.op).val v → next (a.put o.dst v) w) → o.wp P a w next Q := by
    intro hpre ψ w a g' next Q h1 h2 h3 h4
    rw [← same] at hpre h4
    have up := pop_up (g := g') hk2 (fun k b hb _ => h1 k b hb) h3.rel hpre
    rw [← up] at hpre h4
    obtain ⟨r, e1, e2⟩ := pop_ok o hpre h2 h3.rel
    exact wp_value (e1 w (Same.refl w)) (h4 r e2)
  simp only [aOps] at ha
  cases hg : o.guard with
  | none =>
    simp only [hg] at ha
    rw [eop_pure hp] at ha
    refine ⟨_, ha.2, fun ψ w a g' next Q h1 h2 h3 h4 => ?_⟩
    have hw : Region.wanted o (yielded l.toArray a.tmps) = true := by simp [Region.wanted, hg]
    rw [if_pos hw]
    exact run ha.1 ψ w a g' next Q h1 h2 h3 h4
  | some gw =>
    obtain ⟨j, want⟩ := gw
    simp only [hg] at ha
    cases hj : nthDst l j with
    | none =>
      simp only [hj] at ha
      refine ⟨_, ha, fun ψ w a g' next Q h1 h2 h3 h4 => ?_⟩
      rw [if_neg (by rw [guard_never hg hj]; decide)]
      exact h4 _ (VR_undef ψ)
    | some d =>
      simp only [hj] at ha
      obtain ⟨hk, ha⟩ := ha
      rw [if_pos hp] at ha
      obtain ⟨h1, h2⟩ := ha
      refine ⟨_, h2, fun ψ w a g' next Q q1 q2 q3 q4 => ?_⟩
      rw [guard_look hall q3 hg hj hk]
      cases hb : guardB (S.get d) want with
      | true =>
        simp only [hb, condV, cond_true] at q4
        simp only [if_true]
        exact run (h1 hb) ψ w a g' next Q q1 q2 q3 q4
      | false =>
        simp only [hb, condV, cond_false] at q4
        simp only [Bool.false_eq_true, if_false]
        exact q4 _ (VR_undef ψ)

/-! ### The static conditions -/
def permL (l : List Oper) (π : List Nat) : List Oper := π.filterMap fun i => l[i]?
def isF (P : Program) (l : List Oper) (i : Nat) : Bool := match l[i]? with
  | some o => kindF P o.op == 2
  | none => true
def floatH (P : Program) (l : List Oper) (π : List Nat) (ws : List (Option Nat)) (m : Nat) : Bool :=
  orderB l && (π.all fun i => decide (i < l.length)) && ((List.range l.length).all fun i => π.contains i) &&
  ((List.range π.length).all fun q => (List.range π.length).all fun r => decide (q = r) || !(π.getD q 0 == π.getD r 0)) &&
  ((List.range π.length).all fun q => match ws.getD q none with
    | none => (List.range q).all fun c => isF P l (π.getD c 0)
    | some r => decide (r < q) && Region.waitsFor .any l.toArray (π.getD q 0) (π.getD r 0) && (List.range q).all fun c => decide (c ≤ r) || isF P l (π.getD c 0)) &&
  ((List.range π.length).all fun q => match l[π.getD q 0]? with
    | none => true
    | some o => (List.range π.length).all fun r => match l[π.getD r 0]? with
      | none => true
      | some oj => (match oj.dst with
        | none => true
        | some t => !(looksL l o).contains t || (decide (r < q) && Region.waitsFor .any l.toArray (π.getD q 0) (π.getD r 0)))) &&
  decide (m ≤ π.length) && ((List.range π.length).all fun q => decide (q < m) || !isF P l (π.getD q 0)) &&
  (decide (m = π.length) || (List.range m).all fun q => (List.range (m + 1)).any fun r => decide (q < r) && Region.waitsFor .any l.toArray (π.getD r 0) (π.getD q 0))

structure FloatP (P : Program) (l : List Oper) (π : List Nat) (m : Nat) : Prop where
  order : orderB l = true
  inr : ∀ q, q < π.length → π.getD q 0 < l.length
  onto : ∀ i, i < l.length → ∃ q, q < π.length ∧ π.getD q 0 = i
  inj : ∀ q r, q < π.length → r < π.length → π.getD q 0 = π.getD r 0 → q = r
  wait : ∀ q c, q < π.length → c < q → isF P l (π.getD c 0) = false → ∃ r, c ≤ r ∧ r < q ∧ Region.waitsFor .any l.toArray (π.getD q 0) (π.getD r 0) = true
  data : ∀ q r o oj t, q < π.length → r < π.length → l[π.getD q 0]? = some o → l[π.getD r 0]? = some oj → oj.dst = some t → t ∈ looksL l o → r < q ∧ Region.waitsFor .any l.toArray (π.getD q 0) (π.getD r 0) = true
  mle : m ≤ π.length
  tail : ∀ q, m ≤ q → q < π.length → isF P l (π.getD q 0) = false
  sink : m < π.length → ∀ q, q < m → ∃ r, q < r ∧ r ≤ m ∧ Region.waitsFor .any l.toArray (π.getD r 0) (π.getD q 0) = true

theorem floatH_spec {l : List Oper} {π : List Nat} {ws : List (Option Nat)} {m : Nat} (h : floatH P l π ws m = true) : FloatP P l π m := by
  unfold floatH at h
  simp only [Bool.and_eq_true] at h
  obtain ⟨⟨⟨⟨⟨⟨⟨⟨h1, h2⟩, h3⟩, h4⟩, h5⟩, h6⟩, h7⟩, h8⟩, h9⟩ := h
  simp only [List.all_eq_true, List.mem_range] at h2 h3 h4 h5 h6 h8
  refine ⟨h1, fun q hq => ?_, fun i hi => ?_, fun q r hq hr e => ?_, fun q c hq hc hf => ?_, fun q r o oj t hq hr ho hoj hd ht => ?_, by simpa using h7, fun q hm hq => ?_, fun hm q hq => ?_⟩
  · have := h2 (π.getD q 0) (by rw [List.getD, List.getElem?_eq_getElem hq]; exact List.getElem_mem hq)
    simpa using this
  · have := h3 i hi
    rw [List.contains_iff_mem] at this
    obtain ⟨q, hq, e⟩ := List.getElem_of_mem this
    exact ⟨q, hq, by rw [List.getD, List.getElem?_eq_getElem hq]; exact e⟩
  · have := h4 q hq r hr
    rw [Bool.or_eq_true, decide_eq_true_eq] at this
    rcases this with e' | e'
    · exact e'
    · rw [e] at e'; simp at e'
  · have := h5 q hq
    split at this
    · rw [List.all_eq_true] at this
      rw [this c (List.mem_range.2 hc)] at hf
      cases hf
    · rename_i r _
      simp only [Bool.and_eq_true, decide_eq_true_eq, List.all_eq_true, List.mem_range, Bool.or_eq_true] at this
      obtain ⟨⟨t1, t2⟩, t3⟩ := this
      rcases t3 c hc with e | e
      · exact ⟨r, e, t1, t2⟩
      · rw [e] at hf; cases hf
  · have := h6 q hq
    rw [ho] at this
    simp only [List.all_eq_true, List.mem_range] at this
    have := this r hr
    rw [hoj] at this
    simp only [hd, Bool.or_eq_true, Bool.and_eq_true, decide_eq_true_eq, Bool.not_eq_true'] at this
    rcases this with e | e
    · have hm : (looksL l o).contains t = true := by simpa using ht
      rw [hm] at e; cases e
    · exact e
  · have := h8 q hq
    simp only [Bool.or_eq_true, decide_eq_true_eq, Bool.not_eq_true'] at this
    rcases this with e | e
    · omega
    · exact e
  · rw [Bool.or_eq_true, decide_eq_true_eq] at h9
    rcases h9 with e | e
    · omega
    · rw [List.all_eq_true] at e
      have := e q (List.mem_range.2 hq)
      rw [List.any_eq_true] at this
      obtain ⟨r, hr, hw⟩ := this
      rw [List.mem_range] at hr
      simp only [Bool.and_eq_true, decide_eq_true_eq] at hw
      exact ⟨r, hw.1, by omega, hw.2⟩

theorem permL_at {l : List Oper} : ∀ {π : List Nat}, (∀ q, q < π.length → π.getD q 0 < l.length) → ∀ q, q < π.length → (permL l π)[q]? = l[π.getD q 0]?
  | i :: π, h, q, hq => by
    have h0 : i < l.length := h 0 (by simp)
    have e : permL l (i :: π) = l[i] :: permL l π := by
      unfold permL
      rw [List.filterMap_cons, List.getElem?_eq_getElem h0]
    rw [e]
    cases q with
    | zero => simp [List.getElem?_eq_getElem h0]
    | succ q =>
      rw [List.getElem?_cons_succ, permL_at (π := π) (fun q hq => h (q + 1) (by simpa using hq)) q (by simpa using hq)]
      rfl
theorem permL_length {l : List Oper} : ∀ {π : List Nat}, (∀ q, q < π.length → π.getD q 0 < l.length) → (permL l π).length = π.length
  | [], _ => rfl
  | i :: π, h => by
    have h0 : i < l.length := h 0 (by simp)
    unfold permL
    rw [List.filterMap_cons, List.getElem?_eq_getElem h0]
    simp only [List.length_cons]
    exact congrArg (· + 1) (permL_length (π := π) fun q hq => h (q + 1) (by simpa using hq))
theorem permL_drop {l : List Oper} {π : List Nat} (h : ∀ q, q < π.length → π.getD q 0 < l.length) {p : Nat} (hp : p < π.length) {o : Oper} (ho : l[π.getD p 0]? = some o) : (permL l π).drop p = o :: (permL l π).drop (p + 1) := by
  have e := permL_at h p hp
  rw [ho] at e
  have hl := (List.getElem?_eq_some_iff.1 e).1
  rw [List.drop_eq_getElem_cons hl]
  congr 1
  exact (List.getElem?_eq_some_iff.1 e).2

/-- Over the reading operations, up to the next call. -/
theorem advance {l : List Oper} (hall : dstsOk n l = true) {π : List Nat} {m : Nat} (F : FloatP P l π m) {K : Slots → AHeap → Prop} {g : AHeap} : ∀ (d p : Nat) (S : Slots), π.length - p = d → p ≤ π.length → hOps P w₀ l (m - p) ((permL l π).drop p) S g K →
    ∃ p' S', p ≤ p' ∧ p' ≤ π.length ∧ (p' < π.length → isF P l (π.getD p' 0) = false) ∧ (∀ q, p ≤ q → q < p' → isF P l (π.getD q 0) = true) ∧ hOps P w₀ l (m - p') ((permL l π).drop p') S' g K ∧
      (∀ q o, p ≤ q → q < p' → l[π.getD q 0]? = some o → ∃ V, (∀ t, o.dst = some t → S'.get t = V) ∧ FactR P w₀ n l g S' o V) ∧
      (∀ t, (∀ q o, p ≤ q → q < p' → l[π.getD q 0]? = some o → o.dst ≠ some t) → S'.get t = S.get t) := by
  intro d
  induction d with
  | zero =>
    intro p S hd hp ha
    exact ⟨p, S, Nat.le_refl _, hp, fun h => by omega, fun q h1 h2 => by omega, ha, fun q o h1 h2 => by omega, fun t _ => rfl⟩
  | succ d ih =>
    intro p S hd hp ha
    have hpl : p < π.length := by omega
    cases hf : isF P l (π.getD p 0) with
    | false => exact ⟨p, S, Nat.le_refl _, hp, fun _ => hf, fun q h1 h2 => by omega, ha, fun q o h1 h2 => by omega, fun t _ => rfl⟩
    | true =>
      have hpm : p < m := by
        refine Nat.lt_of_not_le fun h => ?_
        rw [F.tail p h hpl] at hf
        cases hf
      obtain ⟨o, ho⟩ : ∃ o, l[π.getD p 0]? = some o := ⟨_, List.getElem?_eq_getElem (F.inr p hpl)⟩
      have hk2 : kindF P o.op = 2 := by
        unfold isF at hf
        rw [ho] at hf
        simpa using hf
      rw [permL_drop F.inr hpl ho, show m - p = (m - (p + 1)) + 1 by omega, hOps_cons] at ha
      obtain ⟨V, ⟨_, hv⟩, hfact⟩ := fact_of hall hk2 ha
      obtain ⟨p', S', a1, a2, a3, a4, a5, a6, a7⟩ := ih (p + 1) (putD S o.dst V) (by omega) (by omega) hv
      have notlook : ∀ q oq t, p ≤ q → q < π.length → l[π.getD q 0]? = some oq → oq.dst = some t → t ∉ looksL l o := fun q oq t h1 h2 h3 h4 ht => by
        have := (F.data p q o oq t hpl h2 ho h3 h4 ht).1
        omega
      have uniq : ∀ q oq t, p < q → q < π.length → l[π.getD q 0]? = some oq → oq.dst = some t → o.dst ≠ some t := fun q oq t h1 h2 h3 h4 e => by
        have := ((orderB_spec F.order ho).2 _ oq t h3 h4).1 e
        have := F.inj p q hpl h2 this
        omega
      refine ⟨p', S', by omega, a2, a3, fun q h1 h2 => ?_, a5, fun q oq h1 h2 hq => ?_, fun t ht => ?_⟩
      · rcases Nat.eq_or_lt_of_le h1 with e | e
        · rw [← e]; exact hf
        · exact a4 q e h2
      · rcases Nat.eq_or_lt_of_le h1 with e | e
        · subst e
          rw [ho] at hq
          obtain rfl := Option.some.inj hq
          refine ⟨V, fun t ht => ?_, hfact.slots fun t ht => ?_⟩
          · rw [a7 t fun q oq h3 h4 h5 h6 => uniq q oq t h3 (by omega) h5 h6 ht, put_get, if_pos ht]
          · rw [a7 t fun q oq h3 h4 h5 h6 => notlook q oq t (by omega) (by omega) h5 h6 ht, put_get, if_neg fun e => notlook p o t (Nat.le_refl _) hpl ho e ht]
        · exact a6 q oq e h2 hq
      · rw [a7 t fun q oq h3 h4 h5 => ht q oq (by omega) h4 h5, put_get, if_neg (ht p o (Nat.le_refl _) (by omega) ho)]

/-- Where a run of the statement stands. -/
def PhaseP (P : Program) (w₀ : World) (n : Nat) (l : List Oper) (π : List Nat) (m : Nat) (K : Slots → AHeap → Prop) (listed : Array Bool) (ψ : PMap) (a : Act) (w : World) : Prop :=
  listed.size = l.length ∧ (∀ j oj, l[j]? = some oj → listed.getD j false = true → ∀ e ∈ oj.after, Region.binds .any e = true → listed.getD e.on false = true) ∧ a.tmps.size = n ∧ a.defers = [] ∧
  ∃ p S g, p ≤ π.length ∧ (p < π.length → isF P l (π.getD p 0) = false) ∧ (∀ q, p ≤ q → q < π.length → listed.getD (π.getD q 0) false = false) ∧ (∀ q, q < p → isF P l (π.getD q 0) = false → listed.getD (π.getD q 0) false = true) ∧
    (m < p → ∀ q, q < p → listed.getD (π.getD q 0) false = true) ∧ HRel w₀ ψ g w ∧ hOps P w₀ l (m - p) ((permL l π).drop p) S g K ∧
    (∀ q o, q < p → l[π.getD q 0]? = some o → listed.getD (π.getD q 0) false = false → ∃ V, (∀ t, o.dst = some t → S.get t = V) ∧ FactR P w₀ n l g S o V) ∧
    ∀ t, (∃ q o, q < p ∧ l[π.getD q 0]? = some o ∧ o.dst = some t ∧ listed.getD (π.getD q 0) false = false) ∨ VR ψ (S.get t) (a.tmps.getD t undef)

theorem waits_listed {l : List Oper} {listed : Array Bool} {i j : Nat} {o : Oper} (ho : l[i]? = some o) (hedges : ∀ e ∈ o.after, Region.binds .any e = true → listed.getD e.on false = true) (hw : Region.waitsFor .any l.toArray i j = true) : listed.getD j false = true := by
  obtain ⟨oi, g1, e, g2, g3, g4⟩ := Region.waitsFor_spec hw
  have g1' : l[i]? = some oi := by simpa using g1
  rw [ho] at g1'
  obtain rfl := Option.some.inj g1'
  rw [← g4]
  exact hedges e g2 g3

theorem any_okP {l : List Oper} (hall : dstsOk n l = true) {π : List Nat} {m : Nat} (F : FloatP P l π m) {K : Slots → AHeap → Prop} {φ : PMap} {Q : Exit → Act → World → Prop}
    (hq : ∀ ψ S g a w, φ.le ψ → HRel w₀ ψ g w → SRel ψ n S a → K S g → Q .normal a w) : ∀ (fuel : Nat) (listed : Array Bool) (a : Act) (w : World) (ψ : PMap), φ.le ψ → PhaseP P w₀ n l π m K listed ψ a w →
    (listed.toList.filter (!·)).length ≤ fuel → wpAny P .any l.toArray Q fuel listed a w := by
  have hB := F.order
  have fin : ∀ (listed : Array Bool) (a : Act) (w : World) (ψ : PMap), φ.le ψ → PhaseP P w₀ n l π m K listed ψ a w → Region.ready .any l.toArray listed = [] → Q .normal a w := by
    rintro listed a w ψ hle ⟨i1, i2, i3, i4, p, S, g, p1, p2, p3, p4, p5, p6, p7, p8, p9⟩ hrd
    have hal := all_listed hB i1 hrd
    have hp : p = π.length := by
      rcases Nat.eq_or_lt_of_le p1 with e | e
      · exact e
      · have := p3 p (Nat.le_refl _) e
        rw [hal _ (F.inr p e)] at this
        cases this
    subst hp
    rw [show (permL l π).drop π.length = [] by rw [← permL_length F.inr]; simp, hOps_nil] at p7
    refine hq ψ S g a w hle p6 ⟨i3, i4, fun t => ?_⟩ p7
    rcases p9 t with ⟨q, o, c1, c2, c3, c4⟩ | c
    · rw [hal _ (F.inr q c1)] at c4; cases c4
    · exact c
  intro fuel
  induction fuel with
  | zero =>
    intro listed a w ψ hle inv hc
    have hrd : Region.ready .any l.toArray listed = [] := by
      cases hrd : Region.ready .any l.toArray listed with
      | nil => rfl
      | cons i r =>
        exfalso
        have hm : i ∈ Region.ready .any l.toArray listed := by rw [hrd]; exact List.mem_cons_self
        obtain ⟨h1, o, ho, _⟩ := mem_ready.1 hm
        have hi : i < listed.size := by
          have : l[i]? = some o := by simpa using ho
          rw [inv.1]; exact (List.getElem?_eq_some_iff.1 this).1
        have h2 : listed.toList[i]? = some false := by
          simp [Array.getD, hi] at h1
          simp [hi, h1]
        have := List.mem_of_getElem? h2
        have hmem : false ∈ listed.toList.filter (!·) := by simp [List.mem_filter, this]
        have := List.length_pos_of_mem hmem
        omega
    exact ⟨hrd, fin listed a w ψ hle inv hrd⟩
  | succ fuel ih =>
    intro listed a w ψ hle inv hc
    refine ⟨fun hrd => fin listed a w ψ hle inv hrd, fun i hi => ?_⟩
    obtain ⟨i1, i2, i3, i4, p, S, g, p1, p2, p3, p4, p5, p6, p7, p8, p9⟩ := inv
    obtain ⟨h1, o, ho, hedges⟩ := mem_ready.1 hi
    have hol : l[i]? = some o := by simpa using ho
    have hilt : i < l.length := (List.getElem?_eq_some_iff.1 hol).1
    have hisz : i < listed.size := by rw [i1]; exact hilt
    have hif : listed.getD i false = false := by simp [Array.getD, hisz] at h1 ⊢; exact h1
    have hcount : ((listed.setIfInBounds i true).toList.filter (!·)).length ≤ fuel := by
      have h2 : listed.toList[i]? = some false := by
        simp [Array.getD, hisz] at h1
        simp [hisz, h1]
      have := count_set listed.toList i h2
      have e : (listed.setIfInBounds i true).toList = listed.toList.set i true := by simp
      rw [e]
      omega
    have hdn : ∀ d, o.dst = some d → d < n := fun d hd => nth_lt l i d hall (by rw [nthDst_eq, hol]; exact hd)
    obtain ⟨q, hql, hqi⟩ := F.onto i hilt
    have hoq : l[π.getD q 0]? = some o := by rw [hqi]; exact hol
    have looks : LookOk ψ n l o S a := ⟨i3, i4, fun t ht => by
      rcases p9 t with ⟨r, oj, c1, c2, c3, c4⟩ | c
      · exfalso
        have := (F.data q r o oj t hql (by omega) hoq c2 c3 ht).2
        rw [hqi] at this
        rw [waits_listed hol hedges this] at c4
        cases c4
      · exact c⟩
    have closed' : ∀ j oj, l[j]? = some oj → (listed.setIfInBounds i true).getD j false = true → ∀ e ∈ oj.after, Region.binds .any e = true → (listed.setIfInBounds i true).getD e.on false = true := fun j oj hj hl e he hb => by
      by_cases e1 : e.on = i
      · rw [e1]; exact set_self hisz
      · rw [set_other e1]
        by_cases e2 : j = i
        · subst e2
          rw [hol] at hj
          obtain rfl := Option.some.inj hj
          exact hedges e he hb
        · rw [set_other e2] at hl
          exact i2 j oj hj hl e he hb
    have other : ∀ r, r < π.length → r ≠ q → (listed.setIfInBounds i true).getD (π.getD r 0) false = listed.getD (π.getD r 0) false := fun r hr hne => set_other fun e => hne (F.inj r q hr hql (by rw [e, hqi]))
    have nobehind : p < q → False := fun hpq => by
      obtain ⟨r, r1, r2, r3⟩ := F.wait q p hql hpq (p2 (by omega))
      rw [hqi] at r3
      have := waits_listed hol hedges r3
      rw [p3 r r1 (by omega)] at this
      cases this
    have goal : (if Region.wanted o (yielded l.toArray a.tmps) = true then o.wp P a w (wpAny P .any l.toArray Q fuel (listed.setIfInBounds i true)) Q else wpAny P .any l.toArray Q fuel (listed.setIfInBounds i true) (a.put o.dst undef) w) := by
      rcases Nat.lt_or_ge q p with hqp | hqp
      · -- a reading operation
        obtain ⟨V, v1, v2⟩ := p8 q o hqp hoq (by rw [hqi]; exact hif)
        refine v2 ψ w a g _ Q (Sub.refl g) p6 looks fun v hv => ?_
        refine ih _ _ _ ψ hle ⟨by simp [i1], closed', by rw [put_size]; exact i3, by rw [put_defers]; exact i4, p, S, g, p1, p2, fun r r1 r2 => ?_, fun r r1 r2 => ?_, fun hm r r1 => ?_, p6, p7, fun r oj r1 r2 r3 => ?_, fun t => ?_⟩ hcount
        · rw [other r r2 (by omega)]; exact p3 r r1 r2
        · by_cases e : r = q
          · rw [e, hqi]; exact set_self hisz
          · rw [other r (by omega) e]; exact p4 r r1 r2
        · by_cases e : r = q
          · rw [e, hqi]; exact set_self hisz
          · rw [other r (by omega) e]; exact p5 hm r r1
        · by_cases e : r = q
          · rw [e, hqi, set_self hisz] at r3; cases r3
          · rw [other r (by omega) e] at r3
            exact p8 r oj r1 r2 r3
        · by_cases hod : o.dst = some t
          · right
            rw [v1 t hod, put_get_eq a hod (by rw [i3]; exact hdn t hod)]
            exact hv
          · rcases p9 t with ⟨r, oj, c1, c2, c3, c4⟩ | c
            · refine .inl ⟨r, oj, c1, c2, c3, ?_⟩
              rw [other r (by omega) fun e => by subst e; rw [hoq] at c2; obtain rfl := Option.some.inj c2; exact hod c3]
              exact c4
            · right
              rw [put_get_ne a hod]
              exact c
      · have hqe : q = p := by
          rcases Nat.eq_or_lt_of_le hqp with e | e
          · exact e.symm
          · exact (nobehind e).elim
        subst hqe
        -- a call
        have all_m : m ≤ q → ∀ r, r < q → listed.getD (π.getD r 0) false = true := fun hm r hr => by
          rcases Nat.eq_or_lt_of_le hm with e | e
          · subst e
            have key : ∀ d r, r + d = m → r < m → listed.getD (π.getD r 0) false = true := by
              intro d
              induction d using Nat.strongRecOn with
              | ind d ihd =>
                intro r hd hr
                obtain ⟨r', s1, s2, s3⟩ := F.sink hql r hr
                rcases Nat.eq_or_lt_of_le s2 with e | e
                · subst e
                  rw [hqi] at s3
                  exact waits_listed hol hedges s3
                · have hl := ihd (m - r') (by omega) r' (by omega) e
                  obtain ⟨oj, hoj⟩ : ∃ oj, l[π.getD r' 0]? = some oj := ⟨_, List.getElem?_eq_getElem (F.inr r' (by omega))⟩
                  exact waits_listed hoj (i2 _ oj hoj hl) s3
            exact key (m - r) r (by omega) hr
          · exact p5 e r hr
        obtain ⟨K', ha, hnext⟩ : ∃ K' : Slots → AHeap → Prop, aOps P w₀ l [o] S g K' ∧ ∀ s' h', K' s' h' → (q < m → Sub g h') ∧ hOps P w₀ l (m - (q + 1)) ((permL l π).drop (q + 1)) s' h' K := by
          rw [permL_drop F.inr hql hoq] at p7
          by_cases c : q < m
          · rw [show m - q = (m - (q + 1)) + 1 by omega, hOps_cons] at p7
            exact ⟨_, p7, fun s' h' hx => ⟨fun _ => hx.1, hx.2⟩⟩
          · rw [show m - q = 0 by omega, hOps_zero] at p7
            refine ⟨_, aOps_one p7, fun s' h' hx => ⟨fun hc => absurd hc c, ?_⟩⟩
            rw [show m - (q + 1) = 0 by omega]
            cases hdr : (permL l π).drop (q + 1) with
            | nil => rw [hdr] at hx; rw [hOps_nil]; exact hx
            | cons o' r' => rw [hdr] at hx; exact hx
        refine one_ok hall ha p6 looks fun ψ' x h' v w' e1 e2 e3 hk => ?_
        obtain ⟨k1, k2⟩ := hnext _ _ hk
        obtain ⟨p', S', a1, a2, a3, a4, a5, a6, a7⟩ := advance hall F (π.length - (q + 1)) (q + 1) (putD S o.dst x) rfl (by omega) k2
        have keep : ∀ r or t, r < q → l[π.getD r 0]? = some or → (or.dst = some t ∨ t ∈ looksL l or) → S'.get t = S.get t := fun r or t hr hor ht => by
          have nd : ∀ u ou, q ≤ u → u < π.length → l[π.getD u 0]? = some ou → ou.dst ≠ some t := fun u ou h1 h2 h3 h4 => by
            rcases ht with ht | ht
            · have := ((orderB_spec hB hor).2 _ ou t h3 h4).1 ht
              have := F.inj r u (by omega) h2 this
              omega
            · have := (F.data r u or ou t (by omega) h2 hor h3 h4 ht).1
              omega
          rw [a7 t fun u ou h1 h2 h3 => nd u ou (by omega) (by omega) h3, put_get, if_neg (nd q o (Nat.le_refl _) hql hoq)]
        refine ih _ _ _ ψ' (PMap.le_trans hle e1) ⟨by simp [i1], closed', by rw [put_size]; exact i3, by rw [put_defers]; exact i4, p', S', h', a2, a3, fun r r1 r2 => ?_, fun r r1 r2 => ?_, fun hm r r1 => ?_, e2, a5, fun r oj r1 r2 r3 => ?_, fun t => ?_⟩ hcount
        · rw [other r r2 (by omega)]; exact p3 r (by omega) r2
        · by_cases e : r = q
          · rw [e, hqi]; exact set_self hisz
          · rw [other r (by omega) e]
            rcases Nat.lt_or_ge r q with c | c
            · exact p4 r c r2
            · rw [a4 r (by omega) r1] at r2; cases r2
        · have hmq : m ≤ q := by
            refine Nat.le_of_not_lt fun hc => ?_
            have hmp : m < π.length := by omega
            have := a4 m (by omega) hm
            rw [F.tail m (Nat.le_refl _) hmp] at this
            cases this
          by_cases e : r = q
          · rw [e, hqi]; exact set_self hisz
          · rw [other r (by omega) e]
            rcases Nat.lt_or_ge r q with c | c
            · exact all_m hmq r c
            · have := a4 r (by omega) r1
              rw [F.tail r (by omega) (by omega)] at this
              cases this
        · by_cases e : r = q
          · rw [e, hqi, set_self hisz] at r3; cases r3
          · rw [other r (by omega) e] at r3
            rcases Nat.lt_or_ge r q with c | c
            · obtain ⟨V, v1, v2⟩ := p8 r oj c r2 r3
              have hqm : q < m := by
                refine Nat.lt_of_not_le fun hm => ?_
                rw [all_m hm r c] at r3
                cases r3
              exact ⟨V, fun t ht => (keep r oj t c r2 (.inl ht)).trans (v1 t ht), (v2.sub (k1 hqm)).slots fun t ht => keep r oj t c r2 (.inr ht)⟩
            · exact a6 r oj (by omega) r1 r2
        · by_cases hod : o.dst = some t
          · right
            rw [a7 t fun u ou h1 h2 h3 h4 => by
              have := ((orderB_spec hB hoq).2 _ ou t h3 h4).1 hod
              have := F.inj q u hql (by omega) this
              omega, put_get, if_pos hod, put_get_eq a hod (by rw [i3]; exact hdn t hod)]
            exact e3
          · by_cases hw : ∃ r or, q + 1 ≤ r ∧ r < p' ∧ l[π.getD r 0]? = some or ∧ or.dst = some t
            · obtain ⟨r, or, w1, w2, w3, w4⟩ := hw
              exact .inl ⟨r, or, w2, w3, w4, by rw [other r (by omega) (by omega)]; exact p3 r (by omega) (by omega)⟩
            · have hS : S'.get t = S.get t := by
                rw [a7 t fun u ou h1 h2 h3 h4 => hw ⟨u, ou, h1, h2, h3, h4⟩, put_get, if_neg hod]
              rcases p9 t with ⟨r, oj, c1, c2, c3, c4⟩ | c
              · exact .inl ⟨r, oj, by omega, c2, c3, by rw [other r (by omega) (by omega)]; exact c4⟩
              · right
                rw [hS, put_get_ne a hod]
                exact VR_mono e1 _ _ c
    simp only [wpOp, ho]
    split
    · rename_i hw
      rw [if_pos hw] at goal
      exact .inl goal
    · rename_i hw
      rw [if_neg hw] at goal
      exact goal

/-- A statement of open order: reading operations in any order, the others chained; of these the first leave what is told of the heap. -/
theorem awp_draw_H {Q : Exit → Slots → AHeap → Prop} {s : Slots} {h : AHeap} {id : Nat} {l : List Oper} (π : List Nat) (ws : List (Option Nat)) (m : Nat) (hm : P.follows .mixedOrders = true) (hB : floatH P l π ws m = true) (hd : dstsOk n l = true)
    (hc : hOps P w₀ l m (permL l π) s h fun s' h' => Q .normal s' h') : Awp P w₀ n (.region id l.toArray true) Q s h := by
  intro φ a w hr hs
  have F := floatH_spec hB
  refine wp_region_any hm ?_
  have hf : ∀ j, (Array.replicate l.toArray.size false).getD j false = false := fun j => by simp [Array.getD]
  obtain ⟨p', S', a1, a2, a3, a4, a5, a6, a7⟩ := advance hd F π.length 0 s rfl (Nat.zero_le _) (by rw [Nat.sub_zero, List.drop_zero]; exact hc)
  refine any_okP (φ := φ) hd F (K := fun s' h' => Q .normal s' h') (fun ψ S g a' w' hle h1 h2 h3 => ⟨ψ, S, g, hle, h1, h2, h3⟩) _ _ _ _ φ φ.le_refl
    ⟨by simp, fun j oj _ hl => (by rw [hf] at hl; cases hl), hs.size, hs.defers, p', S', h, a2, a3, fun r _ _ => hf _, fun r r1 r2 => ?_, fun hm' r r1 => ?_, hr.drew, a5, fun r oj r1 r2 _ => a6 r oj (Nat.zero_le _) r1 r2, fun t => ?_⟩ ?_
  · rw [a4 r (Nat.zero_le _) r1] at r2; cases r2
  · have := a4 m (Nat.zero_le _) hm'
    rw [F.tail m (Nat.le_refl _) (by omega)] at this
    cases this
  · by_cases hw : ∃ r or, r < p' ∧ l[π.getD r 0]? = some or ∧ or.dst = some t
    · obtain ⟨r, or, w2, w3, w4⟩ := hw
      exact .inl ⟨r, or, w2, w3, w4, hf _⟩
    · right
      rw [a7 t fun u ou _ h2 h3 h4 => hw ⟨u, ou, h2, h3, h4⟩]
      exact hs.val t
  · have := List.length_filter_le (!·) (Array.replicate l.toArray.size false).toList
    simpa using this

theorem awp_dseq_H {Q : Exit → Slots → AHeap → Prop} {s : Slots} {h : AHeap} {id : Nat} {l : List Oper} {y : Code} (π : List Nat) (ws : List (Option Nat)) (m : Nat) (L : List Nat) (hm : P.follows .mixedOrders = true) (hB : floatH P l π ws m = true) (hd : dstsOk n l = true)
    (hc : ∀ K : Slots → AHeap → Prop, (∀ s h, Awp P w₀ n y Q s h → K s h) → hOps P w₀ l m (permL l π) s h fun s' h' => K (s'.keep L) h') : Awp P w₀ n (.seq (.region id l.toArray true) y) Q s h :=
  awp_seq (awp_draw_H π ws m hm hB hd (hOps_mono (fun _ _ hk => Awp.keep L hk) (hc (fun s h => Awp P w₀ n y Q s h) (fun _ _ hk => hk))))
end
end Go.AM

/-
  The statement DecimalsSums, walked.
  Conditions: none.
-/
namespace Go.Proofs.YthiiakghjoeikaaGreatDoor
open Go.AM
open Go.Proofs
open Go.Dec
open Go.Lib (decDigits)
set_option maxRecDepth 100000

theorem whole_digZ {d : D} (cd : checkE d = 0) (n : Nat) : digZ (List.replicate n 0 ++ digs d.dig) := by
  intro x hx
  rw [List.mem_append] at hx
  rcases hx with hx | hx
  · rw [List.eq_of_mem_replicate hx]
    exact ⟨by decide, by decide⟩
  · exact digs_digZ (Small_of_check cd).2.1 x hx
theorem whole_leV (d : D) (n : Nat) : leV (List.replicate n 0 ++ digs d.dig) = ((natOf d.dig * 10 ^ n : Nat) : Int) := by
  rw [leV_zeros, leV_digs]
  push_cast
  rfl
theorem whole_len {d : D} (cd : checkE d = 0) (n : Nat) : (List.replicate n 0 ++ digs d.dig).length ≤ n + 62 := by
  rw [List.length_append, List.length_replicate, digs_length]
  have := (Small_of_check cd).1.l
  omega
end Go.Proofs.YthiiakghjoeikaaGreatDoor

/-
  The statement DecimalsProducts, walked.
  Conditions: none.
-/
namespace Go.Proofs.YthiiakghjoeikaaGreatDoor
open Go.AM
open Go.Proofs
open Go.Dec
open Go.Lib (decDigits)
set_option maxRecDepth 100000

theorem whole_self (d : D) : leV (List.replicate (d.scale - d.scale).toNat 0 ++ digs d.dig) = (natOf d.dig : Int) := by
  rw [whole_leV, Int.sub_self]
  simp
end Go.Proofs.YthiiakghjoeikaaGreatDoor

/-
  An assertion layer over the model's wp, part Z: as rule H, with new blocks that may be laid at any time ahead of their use (rule I).
  Conditions: none. Nothing here is about a particular program.
-/
namespace Go.AM
open Go.RowKit (Below)
section
variable {P : Program} {w₀ : World} {n : Nat}

def isA (P : Program) (l : List Oper) (i : Nat) : Bool := match l[i]? with
  | some o => o.guard.isNone && (match o.op with | .alloc e => (zeOf P e).isSome | _ => false)
  | none => false
def allocOf (P : Program) (o : Oper) : Option (List AVal) := match o.guard, o.op with
  | none, .alloc e => (zeOf P e).map fun z => z.cells.toList.map absS
  | _, _ => none
theorem isA_alloc {l : List Oper} {i : Nat} {o : Oper} (ho : l[i]? = some o) (h : isA P l i = true) : ∃ cs, allocOf P o = some cs := by
  unfold isA at h
  rw [ho] at h
  simp only [Bool.and_eq_true, Option.isNone_iff_eq_none] at h
  obtain ⟨h1, h2⟩ := h
  unfold allocOf
  rw [h1]
  split at h2
  · rename_i e he
    rw [he]
    obtain ⟨z, hz⟩ := Option.isSome_iff_exists.1 h2
    exact ⟨_, by simp [hz]; rfl⟩
  · cases h2
theorem allocOf_spec {o : Oper} {cs : List AVal} (h : allocOf P o = some cs) : o.guard = none ∧ ∃ e z, o.op = .alloc e ∧ zeOf P e = some z ∧ cs = z.cells.toList.map absS := by
  unfold allocOf at h
  split at h
  · rename_i e hg ho
    cases hz : zeOf P e with
    | none => rw [hz] at h; cases h
    | some z =>
      rw [hz] at h
      exact ⟨hg, e, z, ho, hz, (Option.some.inj h).symm⟩
  · cases h
theorem not_isA {l : List Oper} {i : Nat} {o : Oper} (ho : l[i]? = some o) (h : isA P l i = false) : allocOf P o = none := by
  unfold isA at h
  rw [ho] at h
  unfold allocOf
  split
  · rename_i e hg hop
    simp only [hg, hop, Option.isNone_none, Bool.true_and] at h
    cases hz : zeOf P e with
    | none => rfl
    | some z => rw [hz] at h; cases h
  · rfl

/-- Operations in an order of our own; a new block may have been laid before; a call may meet such blocks; the first m leave what is told of the heap. -/
def iOps (P : Program) (w₀ : World) (l : List Oper) (h₀ : AHeap) : Nat → List Oper → Slots → AHeap → (Slots → AHeap → Prop) → Prop
  | _, [], s, g, K => K s g
  | 0, o :: r, s, g, K => aOps P w₀ l (o :: r) s g K
  | m + 1, o :: r, s, g, K => match allocOf P o with
    | some cs => ∀ k g', h₀ k = none → Sub g g' → g' k = some ⟨cs, 0⟩ → iOps P w₀ l h₀ m r (putD s o.dst (.ptr (.own k) 0)) g' K
    | none => if kindF P o.op = 2 then aOps P w₀ l [o] s g fun s' g' => Sub g g' ∧ iOps P w₀ l h₀ m r s' g' K
      else ∀ g', Sub g g' → aOps P w₀ l [o] s g' fun s' h' => Sub g' h' ∧ iOps P w₀ l h₀ m r s' h' K
theorem iOps_nil {l : List Oper} {h₀ : AHeap} {m : Nat} {s : Slots} {h : AHeap} {K : Slots → AHeap → Prop} : iOps P w₀ l h₀ m [] s h K = K s h := by cases m <;> rfl
theorem iOps_zero {l : List Oper} {h₀ : AHeap} {o : Oper} {r : List Oper} {s : Slots} {h : AHeap} {K : Slots → AHeap → Prop} : iOps P w₀ l h₀ 0 (o :: r) s h K = aOps P w₀ l (o :: r) s h K := rfl
theorem iOps_read {l : List Oper} {h₀ : AHeap} {m : Nat} {o : Oper} {r : List Oper} {s : Slots} {h : AHeap} {K : Slots → AHeap → Prop} (ha : allocOf P o = none) (hk : kindF P o.op = 2) (hc : aOps P w₀ l [o] s h fun s' g' => Sub h g' ∧ iOps P w₀ l h₀ m r s' g' K) : iOps P w₀ l h₀ (m + 1) (o :: r) s h K := by
  simp only [iOps, ha, hk, if_true]
  exact hc
theorem iOps_call {l : List Oper} {h₀ : AHeap} {m : Nat} {o : Oper} {r : List Oper} {s : Slots} {h : AHeap} {K : Slots → AHeap → Prop} (ha : allocOf P o = none) (hc : ∀ g', Sub h g' → aOps P w₀ l [o] s g' fun s' h' => Sub g' h' ∧ iOps P w₀ l h₀ m r s' h' K) : iOps P w₀ l h₀ (m + 1) (o :: r) s h K := by
  simp only [iOps, ha]
  split
  · exact hc h (Sub.refl h)
  · exact hc
theorem iOps_alloc {l : List Oper} {h₀ : AHeap} {m : Nat} {o : Oper} {r : List Oper} {s : Slots} {h : AHeap} {K : Slots → AHeap → Prop} {cs : List AVal} (ha : allocOf P o = some cs) (hc : ∀ k g', h₀ k = none → Sub h g' → g' k = some ⟨cs, 0⟩ → iOps P w₀ l h₀ m r (putD s o.dst (.ptr (.own k) 0)) g' K) : iOps P w₀ l h₀ (m + 1) (o :: r) s h K := by
  simp only [iOps, ha]
  exact hc
theorem iOps_mono {l : List Oper} {h₀ : AHeap} {K K' : Slots → AHeap → Prop} (hk : ∀ s h, K s h → K' s h) : ∀ {r : List Oper} {m : Nat} {s : Slots} {h : AHeap}, iOps P w₀ l h₀ m r s h K → iOps P w₀ l h₀ m r s h K'
  | [], m, s, h, ha => by rw [iOps_nil] at ha ⊢; exact hk _ _ ha
  | o :: r, 0, s, h, ha => awp_rseq.aOps_mono hk ha
  | o :: r, m + 1, s, h, ha => by
    simp only [iOps] at ha ⊢
    split
    · rename_i cs hcs
      rw [hcs] at ha
      exact fun k g' h1 h2 h3 => iOps_mono hk (ha k g' h1 h2 h3)
    · rename_i hcs
      rw [hcs] at ha
      simp only at ha
      split
      · rename_i h2
        rw [if_pos h2] at ha
        exact aOps1_mono (fun s' h' hx => ⟨hx.1, iOps_mono hk hx.2⟩) ha
      · rename_i h2
        rw [if_neg h2] at ha
        exact fun g' hg => aOps1_mono (fun s' h' hx => ⟨hx.1, iOps_mono hk hx.2⟩) (ha g' hg)

def floatI (P : Program) (l : List Oper) (π : List Nat) (ws : List (Option Nat)) (m : Nat) : Bool :=
  orderB l && (π.all fun i => decide (i < l.length)) && ((List.range l.length).all fun i => π.contains i) &&
  ((List.range π.length).all fun q => (List.range π.length).all fun r => decide (q = r) || !(π.getD q 0 == π.getD r 0)) &&
  ((List.range π.length).all fun q => isA P l (π.getD q 0) || match ws.getD q none with
    | none => (List.range q).all fun c => isF P l (π.getD c 0)
    | some r => decide (r < q) && Region.waitsFor .any l.toArray (π.getD q 0) (π.getD r 0) && !isA P l (π.getD r 0) && (List.range q).all fun c => decide (c ≤ r) || isF P l (π.getD c 0) || (isA P l (π.getD c 0) && Region.waitsFor .any l.toArray (π.getD q 0) (π.getD c 0))) &&
  ((List.range π.length).all fun q => match l[π.getD q 0]? with
    | none => true
    | some o => (List.range π.length).all fun r => match l[π.getD r 0]? with
      | none => true
      | some oj => (match oj.dst with
        | none => true
        | some t => !(looksL l o).contains t || (decide (r < q) && Region.waitsFor .any l.toArray (π.getD q 0) (π.getD r 0)))) &&
  decide (m ≤ π.length) && ((List.range π.length).all fun q => decide (q < m) || (!isF P l (π.getD q 0) && !isA P l (π.getD q 0))) &&
  (decide (m = π.length) || (List.range m).all fun q => (List.range (m + 1)).any fun r => decide (q < r) && Region.waitsFor .any l.toArray (π.getD r 0) (π.getD q 0))

structure FloatQ (P : Program) (l : List Oper) (π : List Nat) (m : Nat) : Prop where
  order : orderB l = true
  inr : ∀ q, q < π.length → π.getD q 0 < l.length
  onto : ∀ i, i < l.length → ∃ q, q < π.length ∧ π.getD q 0 = i
  inj : ∀ q r, q < π.length → r < π.length → π.getD q 0 = π.getD r 0 → q = r
  wait : ∀ q c, q < π.length → c < q → isA P l (π.getD q 0) = false → isF P l (π.getD c 0) = false → ∃ r, c ≤ r ∧ r < q ∧ (r = c ∨ isA P l (π.getD r 0) = false) ∧ Region.waitsFor .any l.toArray (π.getD q 0) (π.getD r 0) = true
  data : ∀ q r o oj t, q < π.length → r < π.length → l[π.getD q 0]? = some o → l[π.getD r 0]? = some oj → oj.dst = some t → t ∈ looksL l o → r < q ∧ Region.waitsFor .any l.toArray (π.getD q 0) (π.getD r 0) = true
  mle : m ≤ π.length
  tail : ∀ q, m ≤ q → q < π.length → isF P l (π.getD q 0) = false ∧ isA P l (π.getD q 0) = false
  sink : m < π.length → ∀ q, q < m → ∃ r, q < r ∧ r ≤ m ∧ Region.waitsFor .any l.toArray (π.getD r 0) (π.getD q 0) = true

theorem floatI_spec {l : List Oper} {π : List Nat} {ws : List (Option Nat)} {m : Nat} (h : floatI P l π ws m = true) : FloatQ P l π m := by
  unfold floatI at h
  simp only [Bool.and_eq_true] at h
  obtain ⟨⟨⟨⟨⟨⟨⟨⟨h1, h2⟩, h3⟩, h4⟩, h5⟩, h6⟩, h7⟩, h8⟩, h9⟩ := h
  simp only [List.all_eq_true, List.mem_range] at h2 h3 h4 h5 h6 h8
  refine ⟨h1, fun q hq => ?_, fun i hi => ?_, fun q r hq hr e => ?_, fun q c hq hc hqa hf => ?_, fun q r o oj t hq hr ho hoj hd ht => ?_, by simpa using h7, fun q hm hq => ?_, fun hm q hq => ?_⟩
  · have := h2 (π.getD q 0) (by rw [List.getD, List.getElem?_eq_getElem hq]; exact List.getElem_mem hq)
    simpa using this
  · have := h3 i hi
    rw [List.contains_iff_mem] at this
    obtain ⟨q, hq, e⟩ := List.getElem_of_mem this
    exact ⟨q, hq, by rw [List.getD, List.getElem?_eq_getElem hq]; exact e⟩
  · have := h4 q hq r hr
    rw [Bool.or_eq_true, decide_eq_true_eq] at this
    rcases this with e' | e'
    · exact e'
    · rw [e] at e'; simp at e'
  · have := h5 q hq
    rw [hqa, Bool.false_or] at this
    split at this
    · rw [List.all_eq_true] at this
      rw [this c (List.mem_range.2 hc)] at hf
      cases hf
    · rename_i r _
      simp only [Bool.and_eq_true, decide_eq_true_eq, List.all_eq_true, List.mem_range, Bool.or_eq_true, Bool.not_eq_true'] at this
      obtain ⟨⟨⟨t1, t2⟩, t4⟩, t3⟩ := this
      rcases t3 c hc with (e | e) | e
      · exact ⟨r, e, t1, .inr t4, t2⟩
      · rw [e] at hf; cases hf
      · exact ⟨c, Nat.le_refl _, hc, .inl rfl, e.2⟩
  · have := h6 q hq
    rw [ho] at this
    simp only [List.all_eq_true, List.mem_range] at this
    have := this r hr
    rw [hoj] at this
    simp only [hd, Bool.or_eq_true, Bool.and_eq_true, decide_eq_true_eq, Bool.not_eq_true'] at this
    rcases this with e | e
    · have hm : (looksL l o).contains t = true := by simpa using ht
      rw [hm] at e; cases e
    · exact e
  · have := h8 q hq
    simp only [Bool.or_eq_true, decide_eq_true_eq, Bool.not_eq_true', Bool.and_eq_true] at this
    rcases this with e | e
    · omega
    · exact e
  · rw [Bool.or_eq_true, decide_eq_true_eq] at h9
    rcases h9 with e | e
    · omega
    · rw [List.all_eq_true] at e
      have := e q (List.mem_range.2 hq)
      rw [List.any_eq_true] at this
      obtain ⟨r, hr, hw⟩ := this
      rw [List.mem_range] at hr
      simp only [Bool.and_eq_true, decide_eq_true_eq] at hw
      exact ⟨r, hw.1, by omega, hw.2⟩

/-- Where a run of the statement stands: g is what the walk tells of the heap, ga what is told besides of the blocks that were laid before their turn. -/
structure PreP (P : Program) (w₀ : World) (n : Nat) (l : List Oper) (π : List Nat) (m : Nat) (h₀ : AHeap) (K : Slots → AHeap → Prop) (listed : Array Bool) (ψ : PMap) (a : Act) (w : World) (p : Nat) (S : Slots) (g ga : AHeap) : Prop where
  size : listed.size = l.length
  closed : ∀ j oj, l[j]? = some oj → listed.getD j false = true → ∀ e ∈ oj.after, Region.binds .any e = true → listed.getD e.on false = true
  tsize : a.tmps.size = n
  defers : a.defers = []
  ple : p ≤ π.length
  ahead : ∀ q, p ≤ q → q < π.length → isA P l (π.getD q 0) = false → listed.getD (π.getD q 0) false = false
  behind : ∀ q, q < p → isF P l (π.getD q 0) = false → listed.getD (π.getD q 0) false = true
  past : m < p → ∀ q, q < p → listed.getD (π.getD q 0) false = true
  rel : HRel w₀ ψ ga w
  sub : Sub g ga
  sub0 : p ≤ m → Sub h₀ ga
  ev : iOps P w₀ l h₀ (m - p) ((permL l π).drop p) S g K
  fact : ∀ q o, q < p → l[π.getD q 0]? = some o → listed.getD (π.getD q 0) false = false → ∃ V, (∀ t, o.dst = some t → S.get t = V) ∧ FactR P w₀ n l g S o V
  early : ∀ q o, p ≤ q → q < π.length → l[π.getD q 0]? = some o → isA P l (π.getD q 0) = true → listed.getD (π.getD q 0) false = true → ∃ cs k, allocOf P o = some cs ∧ h₀ k = none ∧ ga k = some ⟨cs, 0⟩ ∧ ∀ t, o.dst = some t → VR ψ (.ptr (.own k) 0) (a.tmps.getD t undef)
  slot : ∀ t, (∃ q o, q < π.length ∧ l[π.getD q 0]? = some o ∧ o.dst = some t ∧ ((q < p ∧ listed.getD (π.getD q 0) false = false) ∨ (p ≤ q ∧ listed.getD (π.getD q 0) false = true))) ∨ VR ψ (S.get t) (a.tmps.getD t undef)

theorem isF_isA {l : List Oper} {i : Nat} (h : isF P l i = true) (hi : i < l.length) : isA P l i = false := by
  unfold isF at h
  unfold isA
  rw [List.getElem?_eq_getElem hi] at h ⊢
  simp only [beq_iff_eq] at h ⊢
  cases hop : l[i].op <;> simp only [hop, kindF] at h ⊢ <;> simp
  cases h

theorem settle_run {l : List Oper} (hall : dstsOk n l = true) {π : List Nat} {m : Nat} (F : FloatQ P l π m) {h₀ : AHeap} {K : Slots → AHeap → Prop} {listed : Array Bool} {ψ : PMap} {a : Act} {w : World} : ∀ (d p : Nat) (S : Slots) (g ga : AHeap), π.length - p = d → PreP P w₀ n l π m h₀ K listed ψ a w p S g ga →
    ∃ p' S' g' ga', PreP P w₀ n l π m h₀ K listed ψ a w p' S' g' ga' ∧ (p' < π.length → isF P l (π.getD p' 0) = false ∧ listed.getD (π.getD p' 0) false = false) := by
  intro d
  induction d with
  | zero => intro p S g ga hd pre; exact ⟨p, S, g, ga, pre, fun h => by omega⟩
  | succ d ih =>
    intro p S g ga hd pre
    have hpl : p < π.length := by omega
    obtain ⟨o, ho⟩ : ∃ o, l[π.getD p 0]? = some o := ⟨_, List.getElem?_eq_getElem (F.inr p hpl)⟩
    have hev := pre.ev
    have notlook : ∀ q oq, q ≤ p → l[π.getD q 0]? = some oq → ∀ t, o.dst = some t → t ∉ looksL l oq := fun q oq h1 h2 t h3 ht => by
      have := (F.data q p oq o t (by omega) hpl h2 ho h3 ht).1
      omega
    have uniq : ∀ q oq t, q ≠ p → q < π.length → l[π.getD q 0]? = some oq → oq.dst = some t → o.dst ≠ some t := fun q oq t h1 h2 h3 h4 e => by
      have := ((orderB_spec F.order ho).2 _ oq t h3 h4).1 e
      exact h1 (F.inj p q hpl h2 this).symm
    cases hf : isF P l (π.getD p 0) with
    | true =>
      have hpm : p < m := by
        refine Nat.lt_of_not_le fun h => ?_
        rw [(F.tail p h hpl).1] at hf
        cases hf
      have hk2 : kindF P o.op = 2 := by
        unfold isF at hf
        rw [ho] at hf
        simpa using hf
      have hna := isF_isA hf (F.inr p hpl)
      rw [permL_drop F.inr hpl ho, show m - p = (m - (p + 1)) + 1 by omega] at hev
      simp only [iOps, not_isA ho hna, hk2, if_true] at hev
      obtain ⟨V, ⟨_, hv⟩, hfact⟩ := fact_of hall hk2 hev
      have hun := pre.ahead p (Nat.le_refl _) hpl hna
      refine ih (p + 1) (putD S o.dst V) g ga (by omega) ⟨pre.size, pre.closed, pre.tsize, pre.defers, by omega, fun q h1 h2 h3 => pre.ahead q (by omega) h2 h3, fun q h1 h2 => ?_, fun hm => by omega, pre.rel, pre.sub, fun _ => pre.sub0 (by omega), hv, fun q oq h1 h2 h3 => ?_, fun q oq h1 h2 h3 h4 h5 => pre.early q oq (by omega) h2 h3 h4 h5, fun t => ?_⟩
      · rcases Nat.eq_or_lt_of_le (Nat.le_of_lt_succ h1) with e | e
        · subst e; rw [hf] at h2; cases h2
        · exact pre.behind q e h2
      · rcases Nat.eq_or_lt_of_le (Nat.le_of_lt_succ h1) with e | e
        · subst e
          rw [ho] at h2
          obtain rfl := Option.some.inj h2
          exact ⟨V, fun t ht => by rw [put_get, if_pos ht], hfact.slots fun t ht => by rw [put_get, if_neg fun e => notlook q o (Nat.le_refl _) ho t e ht]⟩
        · obtain ⟨V', v1, v2⟩ := pre.fact q oq e h2 h3
          refine ⟨V', fun t ht => ?_, v2.slots fun t ht => ?_⟩
          · rw [put_get, if_neg (uniq q oq t (by omega) (by omega) h2 ht)]; exact v1 t ht
          · rw [put_get, if_neg fun e' => notlook q oq (by omega) h2 t e' ht]
      · by_cases hod : o.dst = some t
        · exact .inl ⟨p, o, hpl, ho, hod, .inl ⟨by omega, hun⟩⟩
        · rcases pre.slot t with ⟨q, oq, c1, c2, c3, c4⟩ | c
          · refine .inl ⟨q, oq, c1, c2, c3, ?_⟩
            rcases c4 with ⟨c4, c5⟩ | ⟨c4, c5⟩
            · exact .inl ⟨by omega, c5⟩
            · refine .inr ⟨?_, c5⟩
              rcases Nat.eq_or_lt_of_le c4 with e | e
              · subst e; rw [hun] at c5; cases c5
              · exact e
          · right
            rw [put_get, if_neg hod]
            exact c
    | false =>
      cases hl : listed.getD (π.getD p 0) false with
      | false => exact ⟨p, S, g, ga, pre, fun _ => ⟨hf, hl⟩⟩
      | true =>
        have hA : isA P l (π.getD p 0) = true := by
          cases hA : isA P l (π.getD p 0) with
          | true => rfl
          | false => rw [pre.ahead p (Nat.le_refl _) hpl hA] at hl; cases hl
        have hpm : p < m := by
          refine Nat.lt_of_not_le fun h => ?_
          rw [(F.tail p h hpl).2] at hA
          cases hA
        obtain ⟨cs, k, e1, e2, e3, e4⟩ := pre.early p o (Nat.le_refl _) hpl ho hA hl
        rw [permL_drop F.inr hpl ho, show m - p = (m - (p + 1)) + 1 by omega] at hev
        simp only [iOps, e1] at hev
        refine ih (p + 1) (putD S o.dst (.ptr (.own k) 0)) ga ga (by omega) ⟨pre.size, pre.closed, pre.tsize, pre.defers, by omega, fun q h1 h2 h3 => pre.ahead q (by omega) h2 h3, fun q h1 h2 => ?_, fun hm => by omega, pre.rel, Sub.refl _, fun _ => pre.sub0 (by omega), hev k ga e2 pre.sub e3, fun q oq h1 h2 h3 => ?_, fun q oq h1 h2 h3 h4 h5 => pre.early q oq (by omega) h2 h3 h4 h5, fun t => ?_⟩
        · rcases Nat.eq_or_lt_of_le (Nat.le_of_lt_succ h1) with e | e
          · subst e; exact hl
          · exact pre.behind q e h2
        · rcases Nat.eq_or_lt_of_le (Nat.le_of_lt_succ h1) with e | e
          · subst e; rw [hl] at h3; cases h3
          · obtain ⟨V', v1, v2⟩ := pre.fact q oq e h2 h3
            refine ⟨V', fun t ht => ?_, (v2.sub pre.sub).slots fun t ht => ?_⟩
            · rw [put_get, if_neg (uniq q oq t (by omega) (by omega) h2 ht)]; exact v1 t ht
            · rw [put_get, if_neg fun e' => notlook q oq (by omega) h2 t e' ht]
        · by_cases hod : o.dst = some t
          · right
            rw [put_get, if_pos hod]
            exact e4 t hod
          · rcases pre.slot t with ⟨q, oq, c1, c2, c3, c4⟩ | c
            · refine .inl ⟨q, oq, c1, c2, c3, ?_⟩
              rcases c4 with ⟨c4, c5⟩ | ⟨c4, c5⟩
              · exact .inl ⟨by omega, c5⟩
              · refine .inr ⟨?_, c5⟩
                rcases Nat.eq_or_lt_of_le c4 with e | e
                · subst e; rw [ho] at c2; obtain rfl := Option.some.inj c2; exact absurd c3 hod
                · exact e
            · right
              rw [put_get, if_neg hod]
              exact c

def PhaseI (P : Program) (w₀ : World) (n : Nat) (l : List Oper) (π : List Nat) (m : Nat) (h₀ : AHeap) (K : Slots → AHeap → Prop) (listed : Array Bool) (ψ : PMap) (a : Act) (w : World) : Prop :=
  ∃ p S g ga, PreP P w₀ n l π m h₀ K listed ψ a w p S g ga ∧ (p < π.length → isF P l (π.getD p 0) = false ∧ listed.getD (π.getD p 0) false = false)

theorem any_okI {l : List Oper} (hall : dstsOk n l = true) {π : List Nat} {m : Nat} (F : FloatQ P l π m) {h₀ : AHeap} {K : Slots → AHeap → Prop} {φ : PMap} {Q : Exit → Act → World → Prop}
    (hq : ∀ ψ S g a w, φ.le ψ → HRel w₀ ψ g w → SRel ψ n S a → K S g → Q .normal a w) : ∀ (fuel : Nat) (listed : Array Bool) (a : Act) (w : World) (ψ : PMap), φ.le ψ → PhaseI P w₀ n l π m h₀ K listed ψ a w →
    (listed.toList.filter (!·)).length ≤ fuel → wpAny P .any l.toArray Q fuel listed a w := by
  have hB := F.order
  have fin : ∀ (listed : Array Bool) (a : Act) (w : World) (ψ : PMap), φ.le ψ → PhaseI P w₀ n l π m h₀ K listed ψ a w → Region.ready .any l.toArray listed = [] → Q .normal a w := by
    rintro listed a w ψ hle ⟨p, S, g, ga, pre, stop⟩ hrd
    have hal := all_listed hB pre.size hrd
    have hp : p = π.length := by
      rcases Nat.eq_or_lt_of_le pre.ple with e | e
      · exact e
      · have := (stop e).2
        rw [hal _ (F.inr p e)] at this
        cases this
    subst hp
    have hev := pre.ev
    rw [show (permL l π).drop π.length = [] by rw [← permL_length F.inr]; simp, iOps_nil] at hev
    refine hq ψ S g a w hle (pre.rel.forget pre.sub) ⟨pre.tsize, pre.defers, fun t => ?_⟩ hev
    rcases pre.slot t with ⟨q, o, c1, c2, c3, c4⟩ | c
    · rcases c4 with ⟨_, c5⟩ | ⟨c4, _⟩
      · rw [hal _ (F.inr q c1)] at c5; cases c5
      · omega
    · exact c
  intro fuel
  induction fuel with
  | zero =>
    intro listed a w ψ hle inv hc
    have hrd : Region.ready .any l.toArray listed = [] := by
      cases hrd : Region.ready .any l.toArray listed with
      | nil => rfl
      | cons i r =>
        exfalso
        have hm : i ∈ Region.ready .any l.toArray listed := by rw [hrd]; exact List.mem_cons_self
        obtain ⟨h1, o, ho, _⟩ := mem_ready.1 hm
        have hi : i < listed.size := by
          have : l[i]? = some o := by simpa using ho
          obtain ⟨_, _, _, _, pre, _⟩ := inv
          rw [pre.size]; exact (List.getElem?_eq_some_iff.1 this).1
        have h2 : listed.toList[i]? = some false := by
          simp [Array.getD, hi] at h1
          simp [hi, h1]
        have := List.mem_of_getElem? h2
        have hmem : false ∈ listed.toList.filter (!·) := by simp [List.mem_filter, this]
        have := List.length_pos_of_mem hmem
        omega
    exact ⟨hrd, fin listed a w ψ hle inv hrd⟩
  | succ fuel ih =>
    intro listed a w ψ hle inv hc
    refine ⟨fun hrd => fin listed a w ψ hle inv hrd, fun i hi => ?_⟩
    obtain ⟨p, S, g, ga, pre, stop⟩ := inv
    obtain ⟨h1, o, ho, hedges⟩ := mem_ready.1 hi
    have hol : l[i]? = some o := by simpa using ho
    have hilt : i < l.length := (List.getElem?_eq_some_iff.1 hol).1
    have hisz : i < listed.size := by rw [pre.size]; exact hilt
    have hif : listed.getD i false = false := by simp [Array.getD, hisz] at h1 ⊢; exact h1
    have hcount : ((listed.setIfInBounds i true).toList.filter (!·)).length ≤ fuel := by
      have h2 : listed.toList[i]? = some false := by
        simp [Array.getD, hisz] at h1
        simp [hisz, h1]
      have := count_set listed.toList i h2
      have e : (listed.setIfInBounds i true).toList = listed.toList.set i true := by simp
      rw [e]
      omega
    have hdn : ∀ d, o.dst = some d → d < n := fun d hd => nth_lt l i d hall (by rw [nthDst_eq, hol]; exact hd)
    obtain ⟨q, hql, hqi⟩ := F.onto i hilt
    have hoq : l[π.getD q 0]? = some o := by rw [hqi]; exact hol
    have looks : q ≤ p → LookOk ψ n l o S a := fun hqp => ⟨pre.tsize, pre.defers, fun t ht => by
      rcases pre.slot t with ⟨r, oj, c1, c2, c3, c4⟩ | c
      · exfalso
        have := F.data q r o oj t hql c1 hoq c2 c3 ht
        have hw := this.2
        rw [hqi] at hw
        rcases c4 with ⟨_, c5⟩ | ⟨c4, _⟩
        · rw [waits_listed hol hedges hw] at c5
          cases c5
        · omega
      · exact c⟩
    have closed' : ∀ j oj, l[j]? = some oj → (listed.setIfInBounds i true).getD j false = true → ∀ e ∈ oj.after, Region.binds .any e = true → (listed.setIfInBounds i true).getD e.on false = true := fun j oj hj hl e he hb => by
      by_cases e1 : e.on = i
      · rw [e1]; exact set_self hisz
      · rw [set_other e1]
        by_cases e2 : j = i
        · subst e2
          rw [hol] at hj
          obtain rfl := Option.some.inj hj
          exact hedges e he hb
        · rw [set_other e2] at hl
          exact pre.closed j oj hj hl e he hb
    have other : ∀ r, r < π.length → r ≠ q → (listed.setIfInBounds i true).getD (π.getD r 0) false = listed.getD (π.getD r 0) false := fun r hr hne => set_other fun e => hne (F.inj r q hr hql (by rw [e, hqi]))
    have self : (listed.setIfInBounds i true).getD (π.getD q 0) false = true := by rw [hqi]; exact set_self hisz
    have uniqd : ∀ r or t, r < π.length → r ≠ q → l[π.getD r 0]? = some or → or.dst = some t → o.dst ≠ some t := fun r or t h1 h2 h3 h4 e => by
      have := ((orderB_spec hB hoq).2 _ or t h3 h4).1 e
      exact h2 (F.inj q r hql h1 this).symm
    have nobehind : isA P l (π.getD q 0) = false → p < q → False := fun hna hpq => by
      obtain ⟨s1, s2⟩ := stop (by omega)
      obtain ⟨r, r1, r2, r4, r3⟩ := F.wait q p hql hpq hna s1
      rw [hqi] at r3
      have hr := waits_listed hol hedges r3
      rcases r4 with e | e
      · subst e; rw [s2] at hr; cases hr
      · rw [pre.ahead r r1 (by omega) e] at hr; cases hr
    have goal : (if Region.wanted o (yielded l.toArray a.tmps) = true then o.wp P a w (wpAny P .any l.toArray Q fuel (listed.setIfInBounds i true)) Q else wpAny P .any l.toArray Q fuel (listed.setIfInBounds i true) (a.put o.dst undef) w) := by
      cases hqa : isA P l (π.getD q 0) with
      | true =>
        -- a new block
        obtain ⟨cs, hcs⟩ := isA_alloc hoq hqa
        obtain ⟨hg, e, z, hop, hz, hcz⟩ := allocOf_spec hcs
        have hw : Region.wanted o (yielded l.toArray a.tmps) = true := by simp [Region.wanted, hg]
        rw [if_pos hw]
        have hnf : isF P l (π.getD q 0) = false := by
          cases hf : isF P l (π.getD q 0) with
          | false => rfl
          | true => rw [isF_isA hf (F.inr q hql)] at hqa; cases hqa
        have hpq : p ≤ q := by
          refine Nat.le_of_not_lt fun hlt => ?_
          have := pre.behind q hlt hnf
          rw [hqi, hif] at this
          cases this
        have hqm : q < m := by
          refine Nat.lt_of_not_le fun h => ?_
          rw [(F.tail q h hql).2] at hqa
          cases hqa
        have hs : SRel ψ n (S.keep []) a := ⟨pre.tsize, pre.defers, fun t => by rw [Slots.get_keep, if_neg (by simp)]; trivial⟩
        refine eop_ok o (s := S.keep []) (h := ga) (K := fun x h' => ∃ k, ga k = none ∧ x = .ptr (.own k) 0 ∧ h' = ga.set k ⟨cs, 0⟩) (by
          rw [hop]
          simp only [eop, hz]
          intro k hk
          exact ⟨k, hk, rfl, by rw [hcz]⟩) pre.rel hs fun ψ' x h' v w' e1 e2 e3 ⟨k, k1, k2, k3⟩ => ?_
        subst k2 k3
        have hsub : Sub ga (ga.set k ⟨cs, 0⟩) := Sub.set k1
        have pre' : PreP P w₀ n l π m h₀ K (listed.setIfInBounds i true) ψ' (a.put o.dst v) w' p S g (ga.set k ⟨cs, 0⟩) := by
          refine ⟨by simp [pre.size], closed', by rw [put_size]; exact pre.tsize, by rw [put_defers]; exact pre.defers, pre.ple, fun r r1 r2 r3 => ?_, fun r r1 r2 => ?_, fun hm => by omega, e2, Sub.trans pre.sub hsub, fun hm => Sub.trans (pre.sub0 hm) hsub, pre.ev, fun r oj r1 r2 r3 => ?_, fun r oj r1 r2 r3 r4 r5 => ?_, fun t => ?_⟩
          · have hne : r ≠ q := fun e => by subst e; rw [hqa] at r3; cases r3
            rw [other r r2 hne]; exact pre.ahead r r1 r2 r3
          · rw [other r (by have := pre.ple; omega) (by omega)]; exact pre.behind r r1 r2
          · rw [other r (by have := pre.ple; omega) (by omega)] at r3
            exact pre.fact r oj r1 r2 r3
          · by_cases er : r = q
            · subst er
              rw [hoq] at r3
              obtain rfl := Option.some.inj r3
              refine ⟨cs, k, hcs, (pre.sub0 (by omega)).none k1, AHeap.set_same _ _ _, fun t ht => ?_⟩
              rw [put_get_eq a ht (by rw [pre.tsize]; exact hdn t ht)]
              exact e3
            · rw [other r r2 er] at r5
              obtain ⟨cs', k', q1, q2, q3, q4⟩ := pre.early r oj r1 r2 r3 r4 r5
              refine ⟨cs', k', q1, q2, hsub _ _ q3, fun t ht => ?_⟩
              rw [put_get_ne a (uniqd r oj t r2 er r3 ht)]
              exact VR_mono e1 _ _ (q4 t ht)
          · by_cases hod : o.dst = some t
            · exact .inl ⟨q, o, hql, hoq, hod, .inr ⟨hpq, self⟩⟩
            · rcases pre.slot t with ⟨r, oj, c1, c2, c3, c4⟩ | c
              · have hne : r ≠ q := fun e => by subst e; rw [hoq] at c2; obtain rfl := Option.some.inj c2; exact hod c3
                exact .inl ⟨r, oj, c1, c2, c3, by rw [other r c1 hne]; exact c4⟩
              · right
                rw [put_get_ne a hod]
                exact VR_mono e1 _ _ c
        obtain ⟨p', S', g', ga', pre2, stop2⟩ := settle_run hall F _ _ _ _ _ rfl pre'
        exact ih _ _ _ ψ' (PMap.le_trans hle e1) ⟨p', S', g', ga', pre2, stop2⟩ hcount
      | false =>
        rcases Nat.lt_or_ge q p with hqp | hqp
        · -- a reading operation
          obtain ⟨V, v1, v2⟩ := pre.fact q o hqp hoq (by rw [hqi]; exact hif)
          refine v2 ψ w a ga _ Q pre.sub pre.rel (looks (by omega)) fun v hv => ?_
          refine ih _ _ _ ψ hle ⟨p, S, g, ga, ⟨by simp [pre.size], closed', by rw [put_size]; exact pre.tsize, by rw [put_defers]; exact pre.defers, pre.ple, fun r r1 r2 r3 => ?_, fun r r1 r2 => ?_, fun hm r r1 => ?_, pre.rel, pre.sub, pre.sub0, pre.ev, fun r oj r1 r2 r3 => ?_, fun r oj r1 r2 r3 r4 r5 => ?_, fun t => ?_⟩, fun hp => ?_⟩ hcount
          · rw [other r r2 (by omega)]; exact pre.ahead r r1 r2 r3
          · by_cases e : r = q
            · rw [e]; exact self
            · rw [other r (by have := pre.ple; omega) e]; exact pre.behind r r1 r2
          · by_cases e : r = q
            · rw [e]; exact self
            · rw [other r (by have := pre.ple; omega) e]; exact pre.past hm r r1
          · by_cases e : r = q
            · rw [e, self] at r3; cases r3
            · rw [other r (by have := pre.ple; omega) e] at r3
              exact pre.fact r oj r1 r2 r3
          · rw [other r r2 (by omega)] at r5
            obtain ⟨cs', k', q1, q2, q3, q4⟩ := pre.early r oj r1 r2 r3 r4 r5
            refine ⟨cs', k', q1, q2, q3, fun t ht => ?_⟩
            rw [put_get_ne a (uniqd r oj t r2 (by omega) r3 ht)]
            exact q4 t ht
          · by_cases hod : o.dst = some t
            · right
              rw [v1 t hod, put_get_eq a hod (by rw [pre.tsize]; exact hdn t hod)]
              exact hv
            · rcases pre.slot t with ⟨r, oj, c1, c2, c3, c4⟩ | c
              · have hne : r ≠ q := fun e => by subst e; rw [hoq] at c2; obtain rfl := Option.some.inj c2; exact hod c3
                exact .inl ⟨r, oj, c1, c2, c3, by rw [other r c1 hne]; exact c4⟩
              · right
                rw [put_get_ne a hod]
                exact c
          · rw [other p hp (by omega)]; exact stop hp
        · have hqe : q = p := by
            rcases Nat.eq_or_lt_of_le hqp with e | e
            · exact e.symm
            · exact (nobehind hqa e).elim
          subst hqe
          -- a call
          have all_m : m ≤ q → ∀ r, r < q → listed.getD (π.getD r 0) false = true := fun hm r hr => by
            rcases Nat.eq_or_lt_of_le hm with e | e
            · subst e
              have key : ∀ d r, r + d = m → r < m → listed.getD (π.getD r 0) false = true := by
                intro d
                induction d using Nat.strongRecOn with
                | ind d ihd =>
                  intro r hd hr
                  obtain ⟨r', s1, s2, s3⟩ := F.sink hql r hr
                  rcases Nat.eq_or_lt_of_le s2 with e | e
                  · subst e
                    rw [hqi] at s3
                    exact waits_listed hol hedges s3
                  · have hl := ihd (m - r') (by omega) r' (by omega) e
                    obtain ⟨oj, hoj⟩ : ∃ oj, l[π.getD r' 0]? = some oj := ⟨_, List.getElem?_eq_getElem (F.inr r' (by omega))⟩
                    exact waits_listed hoj (pre.closed _ oj hoj hl) s3
              exact key (m - r) r (by omega) hr
            · exact pre.past e r hr
          have hnf : isF P l (π.getD q 0) = false := (stop hql).1
          have hk2 : ¬ kindF P o.op = 2 := fun h2 => by
            unfold isF at hnf
            rw [hoq] at hnf
            simp [h2] at hnf
          obtain ⟨gx, K', ha, relx, hnext⟩ : ∃ (gx : AHeap) (K' : Slots → AHeap → Prop), aOps P w₀ l [o] S gx K' ∧ HRel w₀ ψ gx w ∧ ∀ s' h', K' s' h' → (q < m → Sub ga h') ∧ iOps P w₀ l h₀ (m - (q + 1)) ((permL l π).drop (q + 1)) s' h' K := by
            have hev := pre.ev
            rw [permL_drop F.inr hql hoq] at hev
            by_cases c : q < m
            · rw [show m - q = (m - (q + 1)) + 1 by omega] at hev
              simp only [iOps, not_isA hoq hqa, hk2, if_false] at hev
              exact ⟨ga, _, hev ga pre.sub, pre.rel, fun s' h' hx => ⟨fun _ => hx.1, hx.2⟩⟩
            · rw [show m - q = 0 by omega, iOps_zero] at hev
              refine ⟨g, _, aOps_one hev, pre.rel.forget pre.sub, fun s' h' hx => ⟨fun hc => absurd hc c, ?_⟩⟩
              rw [show m - (q + 1) = 0 by omega]
              cases hdr : (permL l π).drop (q + 1) with
              | nil => rw [hdr] at hx; rw [iOps_nil]; exact hx
              | cons o' r' => rw [hdr] at hx; exact hx
          refine one_ok hall ha relx (looks (Nat.le_refl _)) fun ψ' x h' v w' e1 e2 e3 hk => ?_
          obtain ⟨k1, k2⟩ := hnext _ _ hk
          have pre' : PreP P w₀ n l π m h₀ K (listed.setIfInBounds i true) ψ' (a.put o.dst v) w' (q + 1) (putD S o.dst x) h' h' := by
            refine ⟨by simp [pre.size], closed', by rw [put_size]; exact pre.tsize, by rw [put_defers]; exact pre.defers, by omega, fun r r1 r2 r3 => ?_, fun r r1 r2 => ?_, fun hm r r1 => ?_, e2, Sub.refl _, fun hm => Sub.trans (pre.sub0 (by omega)) (k1 (by omega)), k2, fun r oj r1 r2 r3 => ?_, fun r oj r1 r2 r3 r4 r5 => ?_, fun t => ?_⟩
            · rw [other r r2 (by omega)]; exact pre.ahead r (by omega) r2 r3
            · by_cases e : r = q
              · rw [e]; exact self
              · rw [other r (by omega) e]; exact pre.behind r (by omega) r2
            · by_cases e : r = q
              · rw [e]; exact self
              · rw [other r (by omega) e]; exact all_m (by omega) r (by omega)
            · by_cases e : r = q
              · rw [e, self] at r3; cases r3
              · rw [other r (by omega) e] at r3
                have hrq : r < q := by omega
                obtain ⟨V, v1, v2⟩ := pre.fact r oj hrq r2 r3
                have hqm : q < m := by
                  refine Nat.lt_of_not_le fun hm => ?_
                  rw [all_m hm r hrq] at r3
                  cases r3
                refine ⟨V, fun t ht => ?_, (v2.sub (Sub.trans pre.sub (k1 hqm))).slots fun t ht => ?_⟩
                · rw [put_get, if_neg (uniqd r oj t (by omega) e r2 ht)]; exact v1 t ht
                · rw [put_get, if_neg fun e' => by
                    have := (F.data r q oj o t (by omega) hql r2 hoq e' ht).1
                    omega]
            · have hrm : r < m := by
                refine Nat.lt_of_not_le fun h => ?_
                rw [(F.tail r h r2).2] at r4
                cases r4
              rw [other r r2 (by omega)] at r5
              obtain ⟨cs', k', q1, q2, q3, q4⟩ := pre.early r oj (by omega) r2 r3 r4 r5
              refine ⟨cs', k', q1, q2, k1 (by omega) _ _ q3, fun t ht => ?_⟩
              rw [put_get_ne a (uniqd r oj t r2 (by omega) r3 ht)]
              exact VR_mono e1 _ _ (q4 t ht)
            · by_cases hod : o.dst = some t
              · right
                rw [put_get, if_pos hod, put_get_eq a hod (by rw [pre.tsize]; exact hdn t hod)]
                exact e3
              · rcases pre.slot t with ⟨r, oj, c1, c2, c3, c4⟩ | c
                · have hne : r ≠ q := fun e => by subst e; rw [hoq] at c2; obtain rfl := Option.some.inj c2; exact hod c3
                  refine .inl ⟨r, oj, c1, c2, c3, ?_⟩
                  rw [other r c1 hne]
                  rcases c4 with ⟨c4, c5⟩ | ⟨c4, c5⟩
                  · exact .inl ⟨by omega, c5⟩
                  · exact .inr ⟨by omega, c5⟩
                · right
                  rw [put_get, if_neg hod, put_get_ne a hod]
                  exact VR_mono e1 _ _ c
          obtain ⟨p', S', g', ga', pre2, stop2⟩ := settle_run hall F _ _ _ _ _ rfl pre'
          exact ih _ _ _ ψ' (PMap.le_trans hle e1) ⟨p', S', g', ga', pre2, stop2⟩ hcount
    simp only [wpOp, ho]
    split
    · rename_i hw
      rw [if_pos hw] at goal
      exact .inl goal
    · rename_i hw
      rw [if_neg hw] at goal
      exact goal

/-- A statement of open order: reading operations in any order, new blocks laid at any time ahead of their use, the others chained; of these the first leave what is told of the heap. -/
theorem awp_draw_I {Q : Exit → Slots → AHeap → Prop} {s : Slots} {h : AHeap} {id : Nat} {l : List Oper} (π : List Nat) (ws : List (Option Nat)) (m : Nat) (hm : P.follows .mixedOrders = true) (hB : floatI P l π ws m = true) (hd : dstsOk n l = true)
    (hc : iOps P w₀ l h m (permL l π) s h fun s' h' => Q .normal s' h') : Awp P w₀ n (.region id l.toArray true) Q s h := by
  intro φ a w hr hs
  have F := floatI_spec hB
  refine wp_region_any hm ?_
  have hf : ∀ j, (Array.replicate l.toArray.size false).getD j false = false := fun j => by simp [Array.getD]
  have pre : PreP P w₀ n l π m h (fun s' h' => Q .normal s' h') (Array.replicate l.toArray.size false) φ a w.drew 0 s h h :=
    ⟨by simp, fun j oj _ hl => (by rw [hf] at hl; cases hl), hs.size, hs.defers, Nat.zero_le _, fun q _ _ _ => hf _, fun q h1 => by omega, fun h1 => by omega, hr.drew, Sub.refl _, fun _ => Sub.refl _, by rw [Nat.sub_zero, List.drop_zero]; exact hc, fun q o h1 => by omega, fun q o _ _ _ _ h5 => (by rw [hf] at h5; cases h5), fun t => .inr (hs.val t)⟩
  obtain ⟨p', S', g', ga', pre2, stop2⟩ := settle_run hd F _ _ _ _ _ rfl pre
  refine any_okI (φ := φ) hd F (K := fun s' h' => Q .normal s' h') (fun ψ S g a' w' hle h1 h2 h3 => ⟨ψ, S, g, hle, h1, h2, h3⟩) _ _ _ _ φ φ.le_refl ⟨p', S', g', ga', pre2, stop2⟩ ?_
  have := List.length_filter_le (!·) (Array.replicate l.toArray.size false).toList
  simpa using this

theorem awp_dseq_I {Q : Exit → Slots → AHeap → Prop} {s : Slots} {h : AHeap} {id : Nat} {l : List Oper} {y : Code} (π : List Nat) (ws : List (Option Nat)) (m : Nat) (L : List Nat) (hm : P.follows .mixedOrders = true) (hB : floatI P l π ws m = true) (hd : dstsOk n l = true)
    (hc : ∀ K : Slots → AHeap → Prop, (∀ s h, Awp P w₀ n y Q s h → K s h) → iOps P w₀ l h m (permL l π) s h fun s' h' => K (s'.keep L) h') : Awp P w₀ n (.seq (.region id l.toArray true) y) Q s h :=
  awp_seq (awp_draw_I π ws m hm hB hd (iOps_mono (fun _ _ hk => Awp.keep L hk) (hc (fun s h => Awp P w₀ n y Q s h) (fun _ _ hk => hk))))
end
end Go.AM

/-
  An assertion layer over the model's wp, part BA: slices of elements of several cells.
  Conditions: none. Nothing here is about a particular program.
-/
namespace Go.AM

/-! ### The rest of a body -/
def bodyOf (fn : Func) : Code := match fn.body with
  | some c => c
  | none => .skip
def dropSeq : Nat → Code → Code
  | 0, c => c
  | k + 1, .seq _ c => dropSeq k c
  | _ + 1, c => c

/-! ### A value that holds a row of elements, es cells each -/
inductive IsL (w₀ : World) (h : AHeap) (es : Nat) : AVal → List (List AVal) → Prop
  | nil : IsL w₀ h es .nilSlice []
  | mk (l : Loc) (o n : Nat) (c : Cap) (xs : List (List AVal)) (hn : n = xs.length) (hw : ∀ x ∈ xs, x.length = es) (hc : cellsAt w₀ h l o (n * es) = xs.flatten) (hl : allLive xs.flatten = true) (hcap : match c with | .exact c => n ≤ c | .grow g => g = es) : IsL w₀ h es (.slice l o n c) xs

theorem flatten_len {α : Type} {es : Nat} : ∀ {xs : List (List α)}, (∀ x ∈ xs, x.length = es) → xs.flatten.length = xs.length * es
  | [], _ => by simp
  | x :: xs, h => by
    rw [List.flatten_cons, List.length_append, flatten_len (fun y hy => h y (List.mem_cons_of_mem _ hy)), h x (List.mem_cons_self), List.length_cons, Nat.succ_mul, Nat.add_comm]
theorem flatten_drop {α : Type} {es : Nat} : ∀ {xs : List (List α)}, (∀ x ∈ xs, x.length = es) → ∀ i, xs.flatten.drop (i * es) = (xs.drop i).flatten
  | xs, _, 0 => by simp
  | [], _, i + 1 => by simp
  | x :: xs, h, i + 1 => by
    have hx := h x List.mem_cons_self
    rw [List.flatten_cons, List.drop_succ_cons, ← flatten_drop (fun y hy => h y (List.mem_cons_of_mem _ hy)) i, Nat.succ_mul, List.drop_append, List.drop_of_length_le (by omega), List.nil_append, show i * es + es - x.length = i * es by omega]
theorem flatten_take {α : Type} {es : Nat} : ∀ {xs : List (List α)}, (∀ x ∈ xs, x.length = es) → ∀ i, xs.flatten.take (i * es) = (xs.take i).flatten
  | xs, _, 0 => by simp
  | [], _, i + 1 => by simp
  | x :: xs, h, i + 1 => by
    have hx := h x List.mem_cons_self
    rw [List.flatten_cons, List.take_succ_cons, List.flatten_cons, ← flatten_take (fun y hy => h y (List.mem_cons_of_mem _ hy)) i, Nat.succ_mul, Nat.add_comm, List.take_append, List.take_of_length_le (by omega), show es + i * es - x.length = i * es by omega]
theorem allLive_append : ∀ (a c : List AVal), allLive (a ++ c) = (allLive a && allLive c)
  | [], _ => rfl
  | x :: a, c => by simp [allLive, allLive_append a c, Bool.and_assoc]
theorem allLive_flatten : ∀ {xs : List (List AVal)}, allLive xs.flatten = true ↔ ∀ x ∈ xs, allLive x = true
  | [] => by simp [allLive]
  | x :: xs => by
    rw [List.flatten_cons, allLive_append, Bool.and_eq_true, allLive_flatten]
    simp
/-- A part of a slice. -/
def subL (es : Nat) : AVal → Nat → Nat → AVal
  | .slice l o _ (.exact c), i, j => .slice l (o + i * es) (j - i) (.exact (c - i))
  | .slice l o _ (.grow g), i, j => .slice l (o + i * es) (j - i) (.grow g)
  | v, _, _ => v
section
variable {P : Program} {w₀ : World} {h : AHeap} {es : Nat} {v : AVal} {xs : List (List AVal)}

theorem IsL.live (hb : IsL w₀ h es v xs) : v.live = true := by cases hb <;> rfl
theorem IsL.scal (hb : IsL w₀ h es v xs) : v.scal = true := by cases hb <;> rfl
theorem IsL.cells (hb : IsL w₀ h es v xs) : v.cells = [v] := by cases hb <;> rfl
theorem IsL.allLive (hb : IsL w₀ h es v xs) : allLive xs.flatten = true := by
  cases hb with
  | nil => rfl
  | mk l o n c xs hn hw hc hl hcap => exact hl
theorem IsL.len (hb : IsL w₀ h es v xs) {t e : TypeId} (ht : P.underlying t = some (.slice e)) : pLen P t v = ⟨True, .int .i64 xs.length⟩ := by
  cases hb with
  | nil => simp [pLen, ht]
  | mk l o n c xs hn hw hc hl hcap => simp [pLen, ht, hn]
theorem IsL.open (hb : IsL w₀ h es v xs) (hx : xs ≠ []) : ∃ l o c, v = .slice l o xs.length c := by
  cases hb with
  | nil => exact absurd rfl hx
  | mk l o n c xs hn hw hc hl hcap => subst hn; exact ⟨l, o, c, rfl⟩
theorem IsL.part {l : Loc} {o n : Nat} {c : Cap} (hb : IsL w₀ h es (.slice l o n c) xs) {i j : Nat} (hij : i ≤ j) (hj : j ≤ xs.length) : cellsAt w₀ h l (o + i * es) ((j - i) * es) = ((xs.drop i).take (j - i)).flatten := by
  cases hb with
  | mk l o n c xs hn hw hc hl hcap =>
    subst hn
    have h1 : i * es ≤ j * es := Nat.mul_le_mul_right _ hij
    have h2 : j * es ≤ xs.length * es := Nat.mul_le_mul_right _ hj
    rw [Nat.sub_mul, cellsAt_part w₀ h l o (xs.length * es) (i * es) (j * es) h1 h2, hc, flatten_drop hw, ← Nat.sub_mul, flatten_take (fun y hy => hw y (List.mem_of_mem_drop hy))]
theorem IsL.elem {l : Loc} {o n : Nat} {c : Cap} (hb : IsL w₀ h es (.slice l o n c) xs) {i : Nat} (hi : i < xs.length) : cellsAt w₀ h l (o + i * es) es = xs.getD i [] := by
  have := hb.part (i := i) (j := i + 1) (by omega) hi
  rw [show i + 1 - i = 1 by omega, Nat.one_mul] at this
  rw [this, List.take_one, List.head?_drop, List.getElem?_eq_getElem hi]
  simp [List.getD, hi]
theorem IsL.at {l : Loc} {o n : Nat} {c : Cap} (hb : IsL w₀ h es (.slice l o n c) xs) {i j : Nat} (hi : i < xs.length) (hj : j < es) : rd w₀ h l (o + i * es + j) = (xs.getD i []).getD j .dead := by
  have := cellsAt_get w₀ h l es (o + i * es) j hj
  rw [hb.elem hi] at this
  rw [List.getD, this]
  rfl
theorem IsL.sub (hb : IsL w₀ h es v xs) {i j : Nat} (hij : i ≤ j) (hj : j ≤ xs.length) : IsL w₀ h es (subL es v i j) ((xs.drop i).take (j - i)) := by
  have hb' := hb
  cases hb with
  | nil =>
    simp only [subL, List.drop_nil, List.take_nil]
    exact .nil
  | mk l o n c xs hn hw hc hl hcap =>
    subst hn
    have e1 := hb'.part hij hj
    have e2 : AM.allLive ((xs.drop i).take (j - i)).flatten = true := allLive_flatten.2 fun x hx => allLive_flatten.1 hl x (List.mem_of_mem_drop (List.mem_of_mem_take hx))
    cases c with
    | exact c => exact .mk l _ _ _ _ (by simp; omega) (fun x hx => hw x (List.mem_of_mem_drop (List.mem_of_mem_take hx))) e1 e2 (by simp only at hcap ⊢; omega)
    | grow g => exact .mk l _ _ _ _ (by simp; omega) (fun x hx => hw x (List.mem_of_mem_drop (List.mem_of_mem_take hx))) e1 e2 hcap
theorem IsL.slice (hb : IsL w₀ h es v xs) {t e : TypeId} (ht : P.underlying t = some (.slice e)) (hs : szOf P e = some es) (lo hi : Option AVal) {l r : Int} (hl : bndA lo 0 = some l) (hr : bndA hi xs.length = some r)
    (h0 : 0 ≤ l) (h1 : l ≤ r) (h2 : r ≤ xs.length) : pSlice P t v lo hi none = ⟨True, subL es v l.toNat r.toNat⟩ := by
  cases hb with
  | nil =>
    simp only [List.length_nil] at h2 hr
    have e1 : l = 0 := by omega
    have e2 : r = 0 := by omega
    subst e1 e2
    simp only [pSlice, ht, hs, hl, hr, subL, and_self]
  | mk lc o n c xs hn hw hc hl' hcap =>
    subst hn
    have e : (r - l).toNat = r.toNat - l.toNat := by omega
    cases c with
    | exact c =>
      simp only at hcap
      have e3 : ((c : Int) - l).toNat = c - l.toNat := by omega
      have e4 : r ≤ c := by omega
      simp only [pSlice, ht, hs, hl, hr, subL, e, e3, h0, h1, e4, and_self]
    | grow g =>
      simp only at hcap
      subst hcap
      simp only [pSlice, ht, hs, hl, hr, subL, e, h0, h1, h2, and_self]
/-- A slice that has no room behind its elements. -/
def capL : AVal → AVal
  | .slice l o n _ => .slice l o n (.exact n)
  | v => v
theorem IsL.cap (hb : IsL w₀ h es v xs) {t e : TypeId} (ht : P.underlying t = some (.slice e)) : pCap P t (capL v) = ⟨True, .int .i64 xs.length⟩ := by
  cases hb with
  | nil => simp [pCap, ht, capL]
  | mk l o n c xs hn hw hc hl hcap => simp [pCap, ht, hn, capL]
theorem cellsAt_mono {l : Loc} {h h' : AHeap} (hs : Sub h h') : ∀ (m o : Nat), allLive (cellsAt w₀ h l o m) = true → cellsAt w₀ h' l o m = cellsAt w₀ h l o m := by
  intro m
  induction m with
  | zero => intro o _; rfl
  | succ m ih =>
    intro o hl
    simp only [cellsAt, AM.allLive, Bool.and_eq_true] at hl ⊢
    rw [ih _ hl.2]
    congr 1
    cases l with
    | base b => rfl
    | own k =>
      have hl1 := hl.1
      unfold AM.rd at hl1 ⊢
      cases hk : h k with
      | none => simp [hk, AVal.live] at hl1
      | some b => simp only [hk, hs k b hk]
theorem IsL.mono (hb : IsL w₀ h es v xs) {h' : AHeap} (hs : Sub h h') : IsL w₀ h' es v xs := by
  cases hb with
  | nil => exact .nil
  | mk l o n c xs hn hw hc hl hcap => exact .mk l o n c xs hn hw ((cellsAt_mono hs _ _ (by rw [hc]; exact hl)).trans hc) hl hcap
theorem IsL.own {k : Nat} {b : Blk} (hk : h k = some b) (hw : ∀ x ∈ xs, x.length = es) (hc : b.cells = xs.flatten) (hl : AM.allLive xs.flatten = true) (c : Cap) (hcap : match c with | .exact c => xs.length ≤ c | .grow g => g = es) : IsL w₀ h es (.slice (.own k) 0 xs.length c) xs := by
  refine .mk _ _ _ _ _ rfl hw ?_ hl hcap
  have e := flatten_len hw
  rw [cellsAt_own hk 0 _ (by rw [hc, e]; omega), List.drop_zero, hc, List.take_of_length_le (by omega)]
theorem IsL.src (hb : IsL w₀ h es v xs) : srcLen v = some xs.length ∧ srcPre w₀ h es xs.length v ∧ srcCells w₀ h es xs.length v = xs.flatten := by
  cases hb with
  | nil => exact ⟨rfl, trivial, rfl⟩
  | mk l o n c xs hn hw hc hl hcap =>
    subst hn
    refine ⟨rfl, ?_, hc⟩
    show AM.allLive (cellsAt w₀ h l o (xs.length * es)) = true
    rw [hc]
    exact hl
/-- What a growing slice holds. -/
theorem IsL.buf {h₀ : AHeap} {b : Option Buf} (hb : bufOk h₀ es b) (hes : 0 < es) (hc : bufC b = xs.flatten) (hw : ∀ x ∈ xs, x.length = es) (hs : Sub (bufH h₀ b) h) : IsL w₀ h es (bufV es b) xs := by
  cases b with
  | none =>
    have e := flatten_len hw
    rw [← hc] at e
    have e0 : xs.length * es = 0 := by rw [← e]; rfl
    have : xs = [] := by
      rcases Nat.mul_eq_zero.1 e0 with e1 | e1
      · exact List.eq_nil_of_length_eq_zero e1
      · omega
    subst this
    exact .nil
  | some b =>
    have hc' : b.cells = xs.flatten := hc
    have e : b.cells.length / es = xs.length := by rw [hc', flatten_len hw, Nat.mul_div_cancel _ hes]
    show IsL w₀ h es (.slice (.own b.blk) 0 (b.cells.length / es) (.grow es)) xs
    rw [e]
    exact IsL.own (hs _ _ (AHeap.set_same _ _ _)) hw hc' (by rw [← hc']; exact hb.2.2) (.grow es) rfl
end
/-! ### Encoded elements -/
section
variable {α : Type} {w₀ : World} {h : AHeap} {es : Nat} {v : AVal} {enc : α → List AVal} {ys : List α}
end
section
variable {P : Program} {w₀ : World} {ops rest : List Oper} {s : Slots} {h : AHeap} {K : Slots → AHeap → Prop} {dst : Option Tmp} {ty : TypeId} {pos : String} {af : Array Edge}
theorem agL_deadT {r : PR} : agL P w₀ ops rest s h K dst (.bool true) false r = aOps P w₀ ops rest (putD s dst (.tuple [])) h K := by
  unfold agL agP
  simp [gKnown, guardB, condV]
theorem agL_deadF {r : PR} : agL P w₀ ops rest s h K dst (.bool false) true r = aOps P w₀ ops rest (putD s dst (.tuple [])) h K := by
  unfold agL agP
  simp [gKnown, guardB, condV]
theorem agL_deadU {r : PR} (want : Bool) : agL P w₀ ops rest s h K dst (.tuple []) want r = aOps P w₀ ops rest (putD s dst (.tuple [])) h K := by
  unfold agL agP
  simp [gKnown, guardB, condV]
end
end Go.AM

