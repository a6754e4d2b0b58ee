/-
  Texts of this proof, joined: PrR, PrS, PrT, PrG, PrV, PrU, PrW, PrX, PrY, PrZ.
  Conditions: none.
-/
import Derived.Test.YtgnebodlkfblcaaDoorBc
import Derived.Test.YtgnebodlkfblcaaDoorBb
import Derived.Test.YtgnebodlkfblcaaDoorBa
set_option linter.unusedSimpArgs false
set_option linter.unnecessarySimpa false
set_option linter.unusedVariables false
/-
  Contracts: the pairs of two groups; Pairs, Numbers, Path.
  Conditions: none.
-/
namespace Go.Proofs.YtgnebodlkfblcaaDoor
open Go.AM
open Go.Proofs
open Go.Col
open Go.Prs
open Go.RowKit (Below)
set_option maxRecDepth 100000

/-- What is known of a group that is handed in: its row of items, short keys. -/
structure GrpOk (w₀ : World) (h : AHeap) (v : AVal) (g : Int) (l : List (ItemP × ItemO)) : Prop where
  row : IsL w₀ h 22 v (l.map itC)
  few : l.length ≤ 100000
  key : ∀ y ∈ pathsE (items l) g true, (keyE y.2).length ≤ 140737488355328
theorem GrpOk.mono {w₀ : World} {h h' : AHeap} {v : AVal} {g : Int} {l : List (ItemP × ItemO)} (hg : GrpOk w₀ h v g l) (hs : Sub h h') : GrpOk w₀ h' v g l := ⟨hg.row.mono hs, hg.few, hg.key⟩
def grpA (v : AVal) (sz g : Int) : AVal := .agg [v, .int .i64 sz, .int .i64 g]
/-- What Pairs and Numbers answer. -/
def AmongR (w₀ : World) (h : AHeap) (r : AVal) (res : List (Int × Int) × Int) (h' : AHeap) : Prop := ∃ outv, r = .tuple [outv, .int .i64 res.2] ∧ IsL w₀ h' 2 outv (res.1.map pairC) ∧ capL outv = outv ∧ Sub h h'

set_option maxHeartbeats 1000000 in
theorem c_among (w₀ : World) (ht10 : Tab10 w₀) (h : AHeap) (f : Nat) (va vb : AVal) (sza szb ga gb : Int) (la lb : List (ItemP × ItemO)) (isf : ItemP → ItemP → Bool) (hga : GrpOk w₀ h va ga la) (hgb : GrpOk w₀ h vb gb lb)
    (his : ∀ g x y o q, ACall Tryd.prog w₀ f [.agg (itemC x o), .agg (itemC y q)] g (fun v h' => v = .bool (isf x y) ∧ h' = g)) :
    ACall Tryd.prog w₀ 17 [grpA va sza ga, grpA vb szb gb, .func f []] h
      (fun r h' => AmongR w₀ h r (amongR (items la) (items lb) ga gb fun x y => isf ((items la).getD x.toNat default) ((items lb).getD y.toNat default)) h') := by
  have hlva := hga.row.live
  have hlvb := hgb.row.live
  unfold grpA
  refine acall_intro (n := 94) (rs := [.tmp 6, .tmp 7]) Tryd.func17 rfl rfl rfl rfl (Nat.le_of_ble_eq_true rfl) ?_
  simp only [initSlots]
  -- region 0  pairs.go:86
  refine awp_rseq [2, 3, 4] (by rfl) fun K hK => ?_
  refine aOps_box (by rfl) (by rfl) (by rfl) fun k0q0 hk0q0 => ?_
  try have hf_0q0 : h k0q0 = none := by first | assumption | (simp only [AHeap.set_none] at hk0q0; simp only [hk0q0])
  skip
  refine aOps_box (by rfl) (by rfl) (by rfl) fun k0q1 hk0q1 => ?_
  have ne_0q1_0q0 : k0q1 ≠ k0q0 := by simp only [AHeap.set_none] at hk0q1; simp only [hk0q1, ne_eq, not_false_eq_true]
  try have hf_0q1 : h k0q1 = none := by first | assumption | (simp only [AHeap.set_none] at hk0q1; simp only [hk0q1])
  skip
  simp (decide := true) only [aOps_nil, vOps_nil, fOps_nil, kOps_nil, ev, absV, absS, putD, Slots.put, Slots.get, Slots.keep, if_true, if_false, List.contains_cons, List.contains_nil, true_and, and_true, ↓ap_assign, pop_assign, rd_ne', ne_eq, not_false_eq_true, ne_0q1_0q0, ne_0q1_0q0.symm, lv_map, rd_any, AVal.cells, setAt, List.set_cons_zero, List.set_cons_succ, cellsAt, List.getD_cons_zero, List.getD_cons_succ, Nat.zero_add, Nat.reduceAdd, lv_bool, lv_int, lv_str, lv_nilPtr, lv_ptr, lv_nilSlice, lv_slice, lv_nilFunc, lv_func, lv_nilIface, lv_iface, lv_nilMap, lv_agg, lv_tuple, allLive, Bool.and_true, itemC, grpA, hlva, hlvb]
  repeat (with_reducible refine And.intro ?_ ?_; · first | trivial | omega | (intro hg; simp only [Bool.and_eq_true, Bool.or_eq_true, Bool.not_eq_true', Bool.and_eq_false_iff, Bool.or_eq_false_iff, Bool.not_eq_false', decide_eq_true_eq, decide_eq_false_iff_not, eqNil] at hg; omega) )
  apply hK; clear hK K
  refine awp_seq ?_
  -- region 1  pairs.go:87
  refine awp_rseq [2, 3, 4, 21, 22, 23] (by rfl) fun K hK => ?_
  simp (decide := true) only [aOps_nil, vOps_nil, fOps_nil, kOps_nil, ev, absV, absS, putD, Slots.put, Slots.get, Slots.keep, if_true, if_false, List.contains_cons, List.contains_nil, true_and, and_true, ↓ap_loadL, apL_mk, pLoad_agg ag35 sz35, rd_ne', ne_eq, not_false_eq_true, ne_0q1_0q0, ne_0q1_0q0.symm, lv_map, rd_any, AVal.cells, setAt, List.set_cons_zero, List.set_cons_succ, cellsAt, List.getD_cons_zero, List.getD_cons_succ, Nat.zero_add, Nat.reduceAdd, lv_bool, lv_int, lv_str, lv_nilPtr, lv_ptr, lv_nilSlice, lv_slice, lv_nilFunc, lv_func, lv_nilIface, lv_iface, lv_nilMap, lv_agg, lv_tuple, allLive, Bool.and_true, itemC, grpA, hlva, hlvb]
  repeat (with_reducible refine And.intro ?_ ?_; · first | trivial | omega | (intro hg; simp only [Bool.and_eq_true, Bool.or_eq_true, Bool.not_eq_true', Bool.and_eq_false_iff, Bool.or_eq_false_iff, Bool.not_eq_false', decide_eq_true_eq, decide_eq_false_iff_not, eqNil] at hg; omega) )
  refine aOps_buildSlice (cs := [va, .int .i64 sza, .int .i64 ga, vb, .int .i64 szb, .int .i64 gb]) (by kernel_rfl) fun k1q2 hk1q2 => ?_
  have ne_1q2_0q0 : k1q2 ≠ k0q0 := by simp only [AHeap.set_none] at hk1q2; simp only [hk1q2, ne_eq, not_false_eq_true]
  have ne_1q2_0q1 : k1q2 ≠ k0q1 := by simp only [AHeap.set_none] at hk1q2; simp only [hk1q2, ne_eq, not_false_eq_true]
  try have hf_1q2 : h k1q2 = none := by first | assumption | (simp only [AHeap.set_none] at hk1q2; simp only [hk1q2])
  simp (decide := true) only [aOps_nil, vOps_nil, fOps_nil, kOps_nil, ev, absV, absS, putD, Slots.put, Slots.get, Slots.keep, if_true, if_false, List.contains_cons, List.contains_nil, true_and, and_true, ↓ap_len, pop_len, pLen_slice Tryd.underlying67, pLen_nil Tryd.underlying67, ↓ap_move, pop_move, rd_ne', ne_eq, not_false_eq_true, ne_0q1_0q0, ne_0q1_0q0.symm, ne_1q2_0q0, ne_1q2_0q0.symm, ne_1q2_0q1, ne_1q2_0q1.symm, lv_map, rd_any, AVal.cells, setAt, List.set_cons_zero, List.set_cons_succ, cellsAt, List.getD_cons_zero, List.getD_cons_succ, Nat.zero_add, Nat.reduceAdd, lv_bool, lv_int, lv_str, lv_nilPtr, lv_ptr, lv_nilSlice, lv_slice, lv_nilFunc, lv_func, lv_nilIface, lv_iface, lv_nilMap, lv_agg, lv_tuple, allLive, Bool.and_true, itemC, grpA, hlva, hlvb]
  repeat (with_reducible refine And.intro ?_ ?_; · first | trivial | omega | (intro hg; simp only [Bool.and_eq_true, Bool.or_eq_true, Bool.not_eq_true', Bool.and_eq_false_iff, Bool.or_eq_false_iff, Bool.not_eq_false', decide_eq_true_eq, decide_eq_false_iff_not, eqNil] at hg; omega) )
  apply hK; clear hK K
  refine awp_block ?_
  refine awp_loopG [2, 3, 4, 21, 22, 23] (fun i : Nat => [(2, .func f []), (3, .ptr (.own k0q0) 0), (4, .ptr (.own k0q1) 0), (21, .slice (.own k1q2) 0 2 (.exact 2)), (22, .int .i64 2), (23, .int .i64 i)]) (fun i : Nat => ((h.set k0q0 ⟨[va, .int .i64 sza, .int .i64 ga], 0⟩).set k0q1 ⟨[vb, .int .i64 szb, .int .i64 gb], 0⟩).set k1q2 ⟨[va, .int .i64 sza, .int .i64 ga, vb, .int .i64 szb, .int .i64 gb], 0⟩) (fun i : Nat => i ≤ 2 ∧ (1 ≤ i → checkE (items la) ga = 0) ∧ (2 ≤ i → checkE (items lb) gb = 0)) (fun i : Nat => 2 - i) 0 (by rfl) (Sub.refl _) ⟨by omega, fun h => by omega, fun h => by omega⟩ ?_
  rintro i ⟨hi, hca, hcb⟩
  obtain ⟨H0, hH0⟩ : ∃ H0, H0 = ((h.set k0q0 ⟨[va, .int .i64 sza, .int .i64 ga], 0⟩).set k0q1 ⟨[vb, .int .i64 szb, .int .i64 gb], 0⟩).set k1q2 ⟨[va, .int .i64 sza, .int .i64 ga, vb, .int .i64 szb, .int .i64 gb], 0⟩ := ⟨_, rfl⟩
  have hs_H0 : Sub h H0 := by rw [hH0]; exact (by repeat (first | exact Sub.refl _ | assumption | refine Sub.set_both ?_ _ _ | refine Sub.trans_set ?_ (by repeat (first | assumption | refine (AHeap.set_ne _ _ (by first | assumption | exact Ne.symm (by assumption))).trans ?_))))
  have eb_0q0 : H0 k0q0 = some ⟨[va, .int .i64 sza, .int .i64 ga], 0⟩ := by rw [hH0]; exact (by repeat (first | exact AHeap.set_same _ _ _ | assumption | refine (AHeap.set_ne _ _ (by first | assumption | exact Ne.symm (by assumption))).trans ?_))
  have eb_0q1 : H0 k0q1 = some ⟨[vb, .int .i64 szb, .int .i64 gb], 0⟩ := by rw [hH0]; exact (by repeat (first | exact AHeap.set_same _ _ _ | assumption | refine (AHeap.set_ne _ _ (by first | assumption | exact Ne.symm (by assumption))).trans ?_))
  have eb_1q2 : H0 k1q2 = some ⟨[va, .int .i64 sza, .int .i64 ga, vb, .int .i64 szb, .int .i64 gb], 0⟩ := by rw [hH0]; exact (by repeat (first | exact AHeap.set_same _ _ _ | assumption | refine (AHeap.set_ne _ _ (by first | assumption | exact Ne.symm (by assumption))).trans ?_))
  rw [← hH0]
  -- region 2  pairs.go:87
  refine awp_rseq [2, 3, 4, 21, 22, 23, 24] (by rfl) fun K hK => ?_
  simp (decide := true) only [aOps_nil, vOps_nil, fOps_nil, kOps_nil, ev, absV, absS, putD, Slots.put, Slots.get, Slots.keep, if_true, if_false, List.contains_cons, List.contains_nil, true_and, and_true, ↓ap_binOp, pop_binOp, isNilC_tmp, cond_false, pBinX_int, pI_lss, rd_ne', ne_eq, not_false_eq_true, rd_own w₀ eb_0q0, rd_own w₀ eb_0q1, rd_own w₀ eb_1q2, ne_0q1_0q0, ne_0q1_0q0.symm, ne_1q2_0q0, ne_1q2_0q0.symm, ne_1q2_0q1, ne_1q2_0q1.symm, lv_map, rd_any, AVal.cells, setAt, List.set_cons_zero, List.set_cons_succ, cellsAt, List.getD_cons_zero, List.getD_cons_succ, Nat.zero_add, Nat.reduceAdd, lv_bool, lv_int, lv_str, lv_nilPtr, lv_ptr, lv_nilSlice, lv_slice, lv_nilFunc, lv_func, lv_nilIface, lv_iface, lv_nilMap, lv_agg, lv_tuple, allLive, Bool.and_true, itemC, grpA, hlva, hlvb]
  repeat (with_reducible refine And.intro ?_ ?_; · first | trivial | omega | (intro hg; simp only [Bool.and_eq_true, Bool.or_eq_true, Bool.not_eq_true', Bool.and_eq_false_iff, Bool.or_eq_false_iff, Bool.not_eq_false', decide_eq_true_eq, decide_eq_false_iff_not, eqNil] at hg; omega) )
  apply hK; clear hK K
  refine awp_seq (awp_cond (b := _) rfl (fun hb1 => ?_) (fun hb1 => ?_))
  · try simp only [decide_eq_true_eq, decide_eq_false_iff_not, Bool.not_eq_true', Bool.not_eq_false', Bool.and_eq_true, Bool.and_eq_false_iff, Bool.or_eq_true, Bool.or_eq_false_iff, Bool.true_eq, Bool.false_eq, reduceCtorEq] at hb1
    have hi' : i < 2 := by omega
    obtain ⟨v, sz, g, l, hcell, hgv, hcase⟩ : ∃ v sz g l, cellsAt w₀ H0 (.own k1q2) (i * 3) 3 = [v, .int .i64 sz, .int .i64 g] ∧ GrpOk w₀ h v g l ∧ ((i = 0 ∧ l = la ∧ g = ga) ∨ (i = 1 ∧ l = lb ∧ g = gb)) := by
      have hL : IsL w₀ H0 3 (.slice (.own k1q2) 0 2 (.exact 2)) [[va, .int .i64 sza, .int .i64 ga], [vb, .int .i64 szb, .int .i64 gb]] := IsL.own (xs := [[va, .int .i64 sza, .int .i64 ga], [vb, .int .i64 szb, .int .i64 gb]]) eb_1q2 (by simp) (by rfl) (by simp only [List.flatten_cons, List.flatten_nil, List.cons_append, List.nil_append, allLive, hlva, hlvb]; rfl) (.exact 2) (Nat.le_refl _)
      have he := hL.elem (i := i) (by simpa using hi')
      rw [Nat.zero_add] at he
      rcases (by omega : i = 0 ∨ i = 1) with rfl | rfl
      · exact ⟨va, sza, ga, la, he, hga, .inl ⟨rfl, rfl, rfl⟩⟩
      · exact ⟨vb, szb, gb, lb, he, hgb, .inr ⟨rfl, rfl, rfl⟩⟩
    have hlv := hgv.row.live
    refine awp_skip ?_
    change Awp _ _ _ _ _ _ _
    refine awp_seq ?_
    refine awp_block ?_
    -- region 3  pairs.go:87
    refine awp_rseq [2, 3, 4, 9, 21, 22, 23] (by rfl) fun K hK => ?_
    simp (decide := true) only [aOps_nil, vOps_nil, fOps_nil, kOps_nil, ev, absV, absS, putD, Slots.put, Slots.get, Slots.keep, if_true, if_false, List.contains_cons, List.contains_nil, true_and, and_true, ↓ap_indexAddrL, apL_mk, pIndexAddr_slice Tryd.underlying67 sz35, ↓ap_loadL, pLoad_agg ag35 sz35, rd_ne', ne_eq, not_false_eq_true, rd_own w₀ eb_0q0, rd_own w₀ eb_0q1, rd_own w₀ eb_1q2, ne_0q1_0q0, ne_0q1_0q0.symm, ne_1q2_0q0, ne_1q2_0q0.symm, ne_1q2_0q1, ne_1q2_0q1.symm, lv_map, rd_any, AVal.cells, setAt, List.set_cons_zero, List.set_cons_succ, cellsAt, List.getD_cons_zero, List.getD_cons_succ, Nat.zero_add, Nat.reduceAdd, lv_bool, lv_int, lv_str, lv_nilPtr, lv_ptr, lv_nilSlice, lv_slice, lv_nilFunc, lv_func, lv_nilIface, lv_iface, lv_nilMap, lv_agg, lv_tuple, allLive, Bool.and_true, itemC, grpA, hlva, hlvb, hlv, ↓hcell, Int.toNat_natCast]
    repeat (with_reducible refine And.intro ?_ ?_; · first | trivial | omega | (intro hg; simp only [Bool.and_eq_true, Bool.or_eq_true, Bool.not_eq_true', Bool.and_eq_false_iff, Bool.or_eq_false_iff, Bool.not_eq_false', decide_eq_true_eq, decide_eq_false_iff_not, eqNil] at hg; omega) )
    refine aOps_alloc ze35 (cs := [.nilSlice, .int .i64 0, .int .i64 0]) (by rfl) fun k3q2 hk3q2 => ?_
    have hn_3q2 : H0 k3q2 = none := by first | assumption | (simp only [AHeap.set_none] at hk3q2; simp only [hk3q2])
    have hf_3q2 : h k3q2 = none := Sub.none hs_H0 hn_3q2
    have ne_3q2_0q0 : k3q2 ≠ k0q0 := AHeap.ne_some hn_3q2 eb_0q0
    have ne_3q2_0q1 : k3q2 ≠ k0q1 := AHeap.ne_some hn_3q2 eb_0q1
    have ne_3q2_1q2 : k3q2 ≠ k1q2 := AHeap.ne_some hn_3q2 eb_1q2
    refine aOps_store (by rfl) (by rfl) (by repeat (first | exact AHeap.set_same _ _ _ | assumption | refine (AHeap.set_ne _ _ (by first | assumption | exact Ne.symm (by assumption))).trans ?_)) sz35 (by rfl) (by rfl) (by first | exact Nat.le_refl _ | decide | (simp; done) | (simp; omega)) (Nat.zero_le _) (by first | rfl | (simp (decide := true) only [ev, putD, Slots.put, Slots.get, if_true, if_false, AVal.cells, allScal, Bool.and_true, Bool.true_and, sc_int, hgv.row.scal])) ?_
    simp only [AHeap.set_set, setAt, AVal.cells, List.set_cons_zero, List.set_cons_succ, Nat.zero_add, Nat.reduceAdd]
    simp (decide := true) only [aOps_nil, vOps_nil, fOps_nil, kOps_nil, ev, absV, absS, putD, Slots.put, Slots.get, Slots.keep, if_true, if_false, List.contains_cons, List.contains_nil, true_and, and_true, rd_ne', ne_eq, not_false_eq_true, ne_3q2_0q0, ne_3q2_0q0.symm, ne_3q2_0q1, ne_3q2_0q1.symm, ne_3q2_1q2, ne_3q2_1q2.symm, rd_own w₀ eb_0q0, rd_own w₀ eb_0q1, rd_own w₀ eb_1q2, ne_0q1_0q0, ne_0q1_0q0.symm, ne_1q2_0q0, ne_1q2_0q0.symm, ne_1q2_0q1, ne_1q2_0q1.symm, lv_map, rd_any, AVal.cells, setAt, List.set_cons_zero, List.set_cons_succ, cellsAt, List.getD_cons_zero, List.getD_cons_succ, Nat.zero_add, Nat.reduceAdd, lv_bool, lv_int, lv_str, lv_nilPtr, lv_ptr, lv_nilSlice, lv_slice, lv_nilFunc, lv_func, lv_nilIface, lv_iface, lv_nilMap, lv_agg, lv_tuple, allLive, Bool.and_true, itemC, grpA, hlva, hlvb, hlv, ↓hcell, Int.toNat_natCast]
    repeat (with_reducible refine And.intro ?_ ?_; · first | trivial | omega | (intro hg; simp only [Bool.and_eq_true, Bool.or_eq_true, Bool.not_eq_true', Bool.and_eq_false_iff, Bool.or_eq_false_iff, Bool.not_eq_false', decide_eq_true_eq, decide_eq_false_iff_not, eqNil] at hg; omega) )
    apply hK; clear hK K
    -- region 4  pairs.go:88
    refine awp_rseq [2, 3, 4, 10, 21, 22, 23] (by rfl) fun K hK => ?_
    simp (decide := true) only [aOps_nil, vOps_nil, fOps_nil, kOps_nil, ev, absV, absS, putD, Slots.put, Slots.get, Slots.keep, if_true, if_false, List.contains_cons, List.contains_nil, true_and, and_true, ↓ap_loadL, apL_mk, pLoad_agg ag35 sz35, rd_ne', ne_eq, not_false_eq_true, ne_3q2_0q0, ne_3q2_0q0.symm, ne_3q2_0q1, ne_3q2_0q1.symm, ne_3q2_1q2, ne_3q2_1q2.symm, rd_own w₀ eb_0q0, rd_own w₀ eb_0q1, rd_own w₀ eb_1q2, ne_0q1_0q0, ne_0q1_0q0.symm, ne_1q2_0q0, ne_1q2_0q0.symm, ne_1q2_0q1, ne_1q2_0q1.symm, lv_map, rd_any, AVal.cells, setAt, List.set_cons_zero, List.set_cons_succ, cellsAt, List.getD_cons_zero, List.getD_cons_succ, Nat.zero_add, Nat.reduceAdd, lv_bool, lv_int, lv_str, lv_nilPtr, lv_ptr, lv_nilSlice, lv_slice, lv_nilFunc, lv_func, lv_nilIface, lv_iface, lv_nilMap, lv_agg, lv_tuple, allLive, Bool.and_true, itemC, grpA, hlva, hlvb, hlv]
    repeat (with_reducible refine And.intro ?_ ?_; · first | trivial | omega | (intro hg; simp only [Bool.and_eq_true, Bool.or_eq_true, Bool.not_eq_true', Bool.and_eq_false_iff, Bool.or_eq_false_iff, Bool.not_eq_false', decide_eq_true_eq, decide_eq_false_iff_not, eqNil] at hg; omega) )
    refine aOps_callV (V := .int .i64 (checkE (items l) g)) (by rfl) (by rfl) (c_check w₀ _ v sz g l (hgv.row.mono (by repeat (first | exact Sub.refl _ | assumption | refine Sub.set_both ?_ _ _ | refine Sub.trans_set ?_ (by repeat (first | assumption | refine (AHeap.set_ne _ _ (by first | assumption | exact Ne.symm (by assumption))).trans ?_))))) (by have := hgv.few; omega)) ?_
    simp (decide := true) only [aOps_nil, vOps_nil, fOps_nil, kOps_nil, ev, absV, absS, putD, Slots.put, Slots.get, Slots.keep, if_true, if_false, List.contains_cons, List.contains_nil, true_and, and_true, ↓ap_assign, pop_assign, rd_ne', ne_eq, not_false_eq_true, ne_3q2_0q0, ne_3q2_0q0.symm, ne_3q2_0q1, ne_3q2_0q1.symm, ne_3q2_1q2, ne_3q2_1q2.symm, rd_own w₀ eb_0q0, rd_own w₀ eb_0q1, rd_own w₀ eb_1q2, ne_0q1_0q0, ne_0q1_0q0.symm, ne_1q2_0q0, ne_1q2_0q0.symm, ne_1q2_0q1, ne_1q2_0q1.symm, lv_map, rd_any, AVal.cells, setAt, List.set_cons_zero, List.set_cons_succ, cellsAt, List.getD_cons_zero, List.getD_cons_succ, Nat.zero_add, Nat.reduceAdd, lv_bool, lv_int, lv_str, lv_nilPtr, lv_ptr, lv_nilSlice, lv_slice, lv_nilFunc, lv_func, lv_nilIface, lv_iface, lv_nilMap, lv_agg, lv_tuple, allLive, Bool.and_true, itemC, grpA, hlva, hlvb, hlv]
    repeat (with_reducible refine And.intro ?_ ?_; · first | trivial | omega | (intro hg; simp only [Bool.and_eq_true, Bool.or_eq_true, Bool.not_eq_true', Bool.and_eq_false_iff, Bool.or_eq_false_iff, Bool.not_eq_false', decide_eq_true_eq, decide_eq_false_iff_not, eqNil] at hg; omega) )
    apply hK; clear hK K
    -- region 5  pairs.go:88
    refine awp_rseq [2, 3, 4, 10, 21, 22, 23, 30] (by rfl) fun K hK => ?_
    simp (decide := true) only [aOps_nil, vOps_nil, fOps_nil, kOps_nil, ev, absV, absS, putD, Slots.put, Slots.get, Slots.keep, if_true, if_false, List.contains_cons, List.contains_nil, true_and, and_true, ↓ap_move, pop_move, ↓ap_binOp, pop_binOp, isNilC_int, cond_false, pBinX_int, pI_neq, rd_ne', ne_eq, not_false_eq_true, ne_3q2_0q0, ne_3q2_0q0.symm, ne_3q2_0q1, ne_3q2_0q1.symm, ne_3q2_1q2, ne_3q2_1q2.symm, rd_own w₀ eb_0q0, rd_own w₀ eb_0q1, rd_own w₀ eb_1q2, ne_0q1_0q0, ne_0q1_0q0.symm, ne_1q2_0q0, ne_1q2_0q0.symm, ne_1q2_0q1, ne_1q2_0q1.symm, lv_map, rd_any, AVal.cells, setAt, List.set_cons_zero, List.set_cons_succ, cellsAt, List.getD_cons_zero, List.getD_cons_succ, Nat.zero_add, Nat.reduceAdd, lv_bool, lv_int, lv_str, lv_nilPtr, lv_ptr, lv_nilSlice, lv_slice, lv_nilFunc, lv_func, lv_nilIface, lv_iface, lv_nilMap, lv_agg, lv_tuple, allLive, Bool.and_true, itemC, grpA, hlva, hlvb, hlv]
    repeat (with_reducible refine And.intro ?_ ?_; · first | trivial | omega | (intro hg; simp only [Bool.and_eq_true, Bool.or_eq_true, Bool.not_eq_true', Bool.and_eq_false_iff, Bool.or_eq_false_iff, Bool.not_eq_false', decide_eq_true_eq, decide_eq_false_iff_not, eqNil] at hg; omega) )
    apply hK; clear hK K
    refine awp_cond (b := _) rfl (fun hb2 => ?_) (fun hb2 => ?_)
    · try simp only [decide_eq_true_eq, decide_eq_false_iff_not, Bool.not_eq_true', Bool.not_eq_false', Bool.and_eq_true, Bool.and_eq_false_iff, Bool.or_eq_true, Bool.or_eq_false_iff, Bool.true_eq, Bool.false_eq, reduceCtorEq] at hb2
      -- region 6  pairs.go:89
      refine awp_rseq [6, 7] (by rfl) fun K hK => ?_
      simp (decide := true) only [aOps_nil, vOps_nil, fOps_nil, kOps_nil, ev, absV, absS, putD, Slots.put, Slots.get, Slots.keep, if_true, if_false, List.contains_cons, List.contains_nil, true_and, and_true, ↓ap_move, pop_move, ↓ap_assign, pop_assign, rd_ne', ne_eq, not_false_eq_true, ne_3q2_0q0, ne_3q2_0q0.symm, ne_3q2_0q1, ne_3q2_0q1.symm, ne_3q2_1q2, ne_3q2_1q2.symm, rd_own w₀ eb_0q0, rd_own w₀ eb_0q1, rd_own w₀ eb_1q2, ne_0q1_0q0, ne_0q1_0q0.symm, ne_1q2_0q0, ne_1q2_0q0.symm, ne_1q2_0q1, ne_1q2_0q1.symm, lv_map, rd_any, AVal.cells, setAt, List.set_cons_zero, List.set_cons_succ, cellsAt, List.getD_cons_zero, List.getD_cons_succ, Nat.zero_add, Nat.reduceAdd, lv_bool, lv_int, lv_str, lv_nilPtr, lv_ptr, lv_nilSlice, lv_slice, lv_nilFunc, lv_func, lv_nilIface, lv_iface, lv_nilMap, lv_agg, lv_tuple, allLive, Bool.and_true, itemC, grpA, hlva, hlvb, hlv]
      repeat (with_reducible refine And.intro ?_ ?_; · first | trivial | omega | (intro hg; simp only [Bool.and_eq_true, Bool.or_eq_true, Bool.not_eq_true', Bool.and_eq_false_iff, Bool.or_eq_false_iff, Bool.not_eq_false', decide_eq_true_eq, decide_eq_false_iff_not, eqNil] at hg; omega) )
      apply hK; clear hK K
      refine awp_ret ?_
      try simp only [thenA_ret, inBlockA_ret]
      refine retA_ret h (by repeat (first | exact Sub.refl _ | assumption | refine Sub.trans_set ?_ (by assumption))) (resPre_tmp (resPre_tmp (resPre_nil))) ?_
      simp (decide := true) only [aOps_nil, vOps_nil, fOps_nil, kOps_nil, ev, absV, absS, putD, Slots.put, Slots.get, Slots.keep, if_true, if_false, List.contains_cons, List.contains_nil, true_and, and_true, resOf_two, rd_ne', ne_eq, not_false_eq_true, ne_3q2_0q0, ne_3q2_0q0.symm, ne_3q2_0q1, ne_3q2_0q1.symm, ne_3q2_1q2, ne_3q2_1q2.symm, rd_own w₀ eb_0q0, rd_own w₀ eb_0q1, rd_own w₀ eb_1q2, ne_0q1_0q0, ne_0q1_0q0.symm, ne_1q2_0q0, ne_1q2_0q0.symm, ne_1q2_0q1, ne_1q2_0q1.symm, lv_map, rd_any, AVal.cells, setAt, List.set_cons_zero, List.set_cons_succ, cellsAt, List.getD_cons_zero, List.getD_cons_succ, Nat.zero_add, Nat.reduceAdd, lv_bool, lv_int, lv_str, lv_nilPtr, lv_ptr, lv_nilSlice, lv_slice, lv_nilFunc, lv_func, lv_nilIface, lv_iface, lv_nilMap, lv_agg, lv_tuple, allLive, Bool.and_true, itemC, grpA, hlva, hlvb, hlv]
      refine ⟨.nilSlice, ?_, ?_, rfl, Sub.refl _⟩
      · rcases hcase with ⟨rfl, rfl, rfl⟩ | ⟨rfl, rfl, rfl⟩
        · unfold amongR
          rw [if_pos hb2]
        · unfold amongR
          rw [if_neg (by rw [hca (by omega)]; decide), if_pos hb2]
      · have : (amongR (items la) (items lb) ga gb fun x y => isf ((items la).getD x.toNat default) ((items lb).getD y.toNat default)).1 = [] := by
          refine among_none ?_
          rcases hcase with ⟨rfl, rfl, rfl⟩ | ⟨rfl, rfl, rfl⟩
          · unfold amongR
            rw [if_pos hb2]
            exact hb2
          · unfold amongR
            rw [if_neg (by rw [hca (by omega)]; decide), if_pos hb2]
            exact hb2
        rw [this]
        exact .nil
    · try simp only [decide_eq_true_eq, decide_eq_false_iff_not, Bool.not_eq_true', Bool.not_eq_false', Bool.and_eq_true, Bool.and_eq_false_iff, Bool.or_eq_true, Bool.or_eq_false_iff, Bool.true_eq, Bool.false_eq, reduceCtorEq] at hb2
      refine awp_skip ?_
      change Awp _ _ _ _ _ _ _
      -- region 7  pairs.go:87
      refine awp_r [2, 3, 4, 21, 22, 23] (by rfl) ?_
      simp (decide := true) only [aOps_nil, vOps_nil, fOps_nil, kOps_nil, ev, absV, absS, putD, Slots.put, Slots.get, Slots.keep, if_true, if_false, List.contains_cons, List.contains_nil, true_and, and_true, ↓ap_binOp, pop_binOp, isNilC_int, cond_false, pBinX_int, pI_add, ↓ap_move, pop_move, rd_ne', ne_eq, not_false_eq_true, ne_3q2_0q0, ne_3q2_0q0.symm, ne_3q2_0q1, ne_3q2_0q1.symm, ne_3q2_1q2, ne_3q2_1q2.symm, rd_own w₀ eb_0q0, rd_own w₀ eb_0q1, rd_own w₀ eb_1q2, ne_0q1_0q0, ne_0q1_0q0.symm, ne_1q2_0q0, ne_1q2_0q0.symm, ne_1q2_0q1, ne_1q2_0q1.symm, lv_map, rd_any, AVal.cells, setAt, List.set_cons_zero, List.set_cons_succ, cellsAt, List.getD_cons_zero, List.getD_cons_succ, Nat.zero_add, Nat.reduceAdd, lv_bool, lv_int, lv_str, lv_nilPtr, lv_ptr, lv_nilSlice, lv_slice, lv_nilFunc, lv_func, lv_nilIface, lv_iface, lv_nilMap, lv_agg, lv_tuple, allLive, Bool.and_true, itemC, grpA, hlva, hlvb, hlv]
      try simp (disch := omega) only [wrap_i64, wrap_u8]
      repeat (with_reducible refine And.intro ?_ ?_; · first | trivial | omega | (intro hg; simp only [Bool.and_eq_true, Bool.or_eq_true, Bool.not_eq_true', Bool.and_eq_false_iff, Bool.or_eq_false_iff, Bool.not_eq_false', decide_eq_true_eq, decide_eq_false_iff_not, eqNil] at hg; omega) )
      try simp only [thenA_normal, inBlockA_normal]
      refine ⟨i + 1, rfl, (by repeat (first | exact Sub.refl _ | assumption | refine Sub.set_both ?_ _ _ | refine Sub.trans_set ?_ (by repeat (first | assumption | refine (AHeap.set_ne _ _ (by first | assumption | exact Ne.symm (by assumption))).trans ?_)))), ⟨by omega, fun h1 => ?_, fun h2 => ?_⟩, by omega⟩
      · rcases hcase with ⟨rfl, rfl, rfl⟩ | ⟨rfl, rfl, rfl⟩
        · simpa using hb2
        · exact hca (by omega)
      · rcases hcase with ⟨rfl, rfl, rfl⟩ | ⟨rfl, rfl, rfl⟩
        · omega
        · simpa using hb2
  · try simp only [decide_eq_true_eq, decide_eq_false_iff_not, Bool.not_eq_true', Bool.not_eq_false', Bool.and_eq_true, Bool.and_eq_false_iff, Bool.or_eq_true, Bool.or_eq_false_iff, Bool.true_eq, Bool.false_eq, reduceCtorEq] at hb1
    refine awp_exit ?_
    change Awp _ _ _ _ _ _ _
    refine Awp.keep [2, 3, 4] ?_
    have hc1 := hca (by omega)
    have hc2 := hcb (by omega)
    refine l_among8 w₀ ht10 H0 f k0q0 k0q1 va vb sza szb ga gb lb _ eb_0q0 eb_0q1 (hgb.row.mono hs_H0) hgb.few hgb.key fun km H c os ps B he hps => ?_
    refine l_among13 w₀ ht10 H0 H B f k0q0 k0q1 km c va vb sza szb ga gb la lb os ps isf _ he hps (hga.row.mono hs_H0) (hgb.row.mono hs_H0) hga.few hgb.few hga.key his fun outv h' hL hcap hs => ?_
    have hres : amongR (items la) (items lb) ga gb (fun x y => isf ((items la).getD x.toNat default) ((items lb).getD y.toNat default)) = (pairsE (pathsE (items la) ga true) (pathsE (items lb) gb true) fun x y => isf ((items la).getD x.toNat default) ((items lb).getD y.toNat default), 0) := by
      unfold amongR
      rw [if_neg (by rw [hc1]; decide), if_neg (by rw [hc2]; decide)]
    rw [hres]
    exact ⟨outv, rfl, hL, hcap, hs_H0.trans hs⟩
theorem c_Pairs (w₀ : World) (ht10 : Tab10 w₀) (h : AHeap) (va vb : AVal) (sza szb ga gb : Int) (la lb : List (ItemP × ItemO)) (hga : GrpOk w₀ h va ga la) (hgb : GrpOk w₀ h vb gb lb) :
    ACall Tryd.prog w₀ 10 [grpA va sza ga, grpA vb szb gb] h (fun r h' => AmongR w₀ h r (amongR (items la) (items lb) ga gb (isP (items la) (items lb))) h') := by
  have hlva := hga.row.live
  have hlvb := hgb.row.live
  unfold grpA
  refine acall_intro (n := 11) (rs := [.tmp 4, .tmp 5]) Tryd.func10 rfl rfl rfl rfl (Nat.le_of_ble_eq_true rfl) ?_
  simp only [initSlots]
  -- region 0  pairs.go:63
  refine awp_rseq [2, 3] (by rfl) fun K hK => ?_
  refine aOps_box (by rfl) (by rfl) (by rfl) fun k0q0 hk0q0 => ?_
  try have hf_0q0 : h k0q0 = none := by first | assumption | (simp only [AHeap.set_none] at hk0q0; simp only [hk0q0])
  skip
  refine aOps_box (by rfl) (by rfl) (by rfl) fun k0q1 hk0q1 => ?_
  have ne_0q1_0q0 : k0q1 ≠ k0q0 := by simp only [AHeap.set_none] at hk0q1; simp only [hk0q1, ne_eq, not_false_eq_true]
  try have hf_0q1 : h k0q1 = none := by first | assumption | (simp only [AHeap.set_none] at hk0q1; simp only [hk0q1])
  skip
  simp (decide := true) only [aOps_nil, vOps_nil, fOps_nil, kOps_nil, ev, absV, absS, putD, Slots.put, Slots.get, Slots.keep, if_true, if_false, List.contains_cons, List.contains_nil, true_and, and_true, ↓ap_assign, pop_assign, rd_ne', ne_eq, not_false_eq_true, ne_0q1_0q0, ne_0q1_0q0.symm, lv_map, rd_any, AVal.cells, setAt, List.set_cons_zero, List.set_cons_succ, cellsAt, List.getD_cons_zero, List.getD_cons_succ, Nat.zero_add, Nat.reduceAdd, lv_bool, lv_int, lv_str, lv_nilPtr, lv_ptr, lv_nilSlice, lv_slice, lv_nilFunc, lv_func, lv_nilIface, lv_iface, lv_nilMap, lv_agg, lv_tuple, allLive, Bool.and_true, itemC, grpA, hlva, hlvb]
  repeat (with_reducible refine And.intro ?_ ?_; · first | trivial | omega | (intro hg; simp only [Bool.and_eq_true, Bool.or_eq_true, Bool.not_eq_true', Bool.and_eq_false_iff, Bool.or_eq_false_iff, Bool.not_eq_false', decide_eq_true_eq, decide_eq_false_iff_not, eqNil] at hg; omega) )
  apply hK; clear hK K
  -- region 1  pairs.go:64
  refine awp_rseq [4, 5] (by rfl) fun K hK => ?_
  simp (decide := true) only [aOps_nil, vOps_nil, fOps_nil, kOps_nil, ev, absV, absS, putD, Slots.put, Slots.get, Slots.keep, if_true, if_false, List.contains_cons, List.contains_nil, true_and, and_true, ↓ap_loadL, apL_mk, pLoad_agg ag35 sz35, rd_ne', ne_eq, not_false_eq_true, ne_0q1_0q0, ne_0q1_0q0.symm, lv_map, rd_any, AVal.cells, setAt, List.set_cons_zero, List.set_cons_succ, cellsAt, List.getD_cons_zero, List.getD_cons_succ, Nat.zero_add, Nat.reduceAdd, lv_bool, lv_int, lv_str, lv_nilPtr, lv_ptr, lv_nilSlice, lv_slice, lv_nilFunc, lv_func, lv_nilIface, lv_iface, lv_nilMap, lv_agg, lv_tuple, allLive, Bool.and_true, itemC, grpA, hlva, hlvb]
  repeat (with_reducible refine And.intro ?_ ?_; · first | trivial | omega | (intro hg; simp only [Bool.and_eq_true, Bool.or_eq_true, Bool.not_eq_true', Bool.and_eq_false_iff, Bool.or_eq_false_iff, Bool.not_eq_false', decide_eq_true_eq, decide_eq_false_iff_not, eqNil] at hg; omega) )
  refine aOps_call (by rfl) (by rfl) (c_among w₀ ht10 _ 18 va vb sza szb ga gb la lb (fun x y => decide (x.cat ≠ 0) || decide (y.cat ≠ 0)) (hga.mono (by repeat (first | exact Sub.refl _ | assumption | refine Sub.set_both ?_ _ _ | refine Sub.trans_set ?_ (by repeat (first | assumption | refine (AHeap.set_ne _ _ (by first | assumption | exact Ne.symm (by assumption))).trans ?_))))) (hgb.mono (by repeat (first | exact Sub.refl _ | assumption | refine Sub.set_both ?_ _ _ | refine Sub.trans_set ?_ (by repeat (first | assumption | refine (AHeap.set_ne _ _ (by first | assumption | exact Ne.symm (by assumption))).trans ?_))))) (fun g x y o q => c_isP w₀ g x y o q)) fun x1q2 h1q2 hx1q2 => ?_
  obtain ⟨outv, rfl, hL1, hcap1, hs1⟩ := hx1q2
  simp (decide := true) only [aOps_nil, vOps_nil, fOps_nil, kOps_nil, ev, absV, absS, putD, Slots.put, Slots.get, Slots.keep, if_true, if_false, List.contains_cons, List.contains_nil, true_and, and_true, ↓ap_extract, pop_extract, pExt_tuple, List.length_cons, List.length_nil, List.getD_cons_zero, List.getD_cons_succ, ↓ap_assign, pop_assign, rd_ne', ne_eq, not_false_eq_true, ne_0q1_0q0, ne_0q1_0q0.symm, lv_map, rd_any, AVal.cells, setAt, List.set_cons_zero, List.set_cons_succ, cellsAt, List.getD_cons_zero, List.getD_cons_succ, Nat.zero_add, Nat.reduceAdd, lv_bool, lv_int, lv_str, lv_nilPtr, lv_ptr, lv_nilSlice, lv_slice, lv_nilFunc, lv_func, lv_nilIface, lv_iface, lv_nilMap, lv_agg, lv_tuple, allLive, Bool.and_true, itemC, grpA, hlva, hlvb]
  repeat (with_reducible refine And.intro ?_ ?_; · first | trivial | omega | (intro hg; simp only [Bool.and_eq_true, Bool.or_eq_true, Bool.not_eq_true', Bool.and_eq_false_iff, Bool.or_eq_false_iff, Bool.not_eq_false', decide_eq_true_eq, decide_eq_false_iff_not, eqNil] at hg; omega) )
  apply hK; clear hK K
  refine awp_ret ?_
  try simp only [thenA_ret, inBlockA_ret]
  refine retA_retE (resPre_tmp (resPre_tmp (resPre_nil))) ?_
  simp (decide := true) only [aOps_nil, vOps_nil, fOps_nil, kOps_nil, ev, absV, absS, putD, Slots.put, Slots.get, Slots.keep, if_true, if_false, List.contains_cons, List.contains_nil, true_and, and_true, resOf_two, rd_ne', ne_eq, not_false_eq_true, ne_0q1_0q0, ne_0q1_0q0.symm, lv_map, rd_any, AVal.cells, setAt, List.set_cons_zero, List.set_cons_succ, cellsAt, List.getD_cons_zero, List.getD_cons_succ, Nat.zero_add, Nat.reduceAdd, lv_bool, lv_int, lv_str, lv_nilPtr, lv_ptr, lv_nilSlice, lv_slice, lv_nilFunc, lv_func, lv_nilIface, lv_iface, lv_nilMap, lv_agg, lv_tuple, allLive, Bool.and_true, itemC, grpA, hlva, hlvb]
  refine ⟨_, Sub.refl _, outv, rfl, hL1, hcap1, ?_⟩
  exact Sub.trans (by repeat (first | exact Sub.refl _ | assumption | refine Sub.set_both ?_ _ _ | refine Sub.trans_set ?_ (by repeat (first | assumption | refine (AHeap.set_ne _ _ (by first | assumption | exact Ne.symm (by assumption))).trans ?_)))) hs1
theorem c_Numbers (w₀ : World) (ht10 : Tab10 w₀) (h : AHeap) (va vb : AVal) (sza szb ga gb : Int) (la lb : List (ItemP × ItemO)) (hga : GrpOk w₀ h va ga la) (hgb : GrpOk w₀ h vb gb lb) :
    ACall Tryd.prog w₀ 11 [grpA va sza ga, grpA vb szb gb] h (fun r h' => AmongR w₀ h r (amongR (items la) (items lb) ga gb (isN (items la) (items lb))) h') := by
  have hlva := hga.row.live
  have hlvb := hgb.row.live
  unfold grpA
  refine acall_intro (n := 11) (rs := [.tmp 4, .tmp 5]) Tryd.func11 rfl rfl rfl rfl (Nat.le_of_ble_eq_true rfl) ?_
  simp only [initSlots]
  -- region 0  pairs.go:70
  refine awp_rseq [2, 3] (by rfl) fun K hK => ?_
  refine aOps_box (by rfl) (by rfl) (by rfl) fun k0q0 hk0q0 => ?_
  try have hf_0q0 : h k0q0 = none := by first | assumption | (simp only [AHeap.set_none] at hk0q0; simp only [hk0q0])
  skip
  refine aOps_box (by rfl) (by rfl) (by rfl) fun k0q1 hk0q1 => ?_
  have ne_0q1_0q0 : k0q1 ≠ k0q0 := by simp only [AHeap.set_none] at hk0q1; simp only [hk0q1, ne_eq, not_false_eq_true]
  try have hf_0q1 : h k0q1 = none := by first | assumption | (simp only [AHeap.set_none] at hk0q1; simp only [hk0q1])
  skip
  simp (decide := true) only [aOps_nil, vOps_nil, fOps_nil, kOps_nil, ev, absV, absS, putD, Slots.put, Slots.get, Slots.keep, if_true, if_false, List.contains_cons, List.contains_nil, true_and, and_true, ↓ap_assign, pop_assign, rd_ne', ne_eq, not_false_eq_true, ne_0q1_0q0, ne_0q1_0q0.symm, lv_map, rd_any, AVal.cells, setAt, List.set_cons_zero, List.set_cons_succ, cellsAt, List.getD_cons_zero, List.getD_cons_succ, Nat.zero_add, Nat.reduceAdd, lv_bool, lv_int, lv_str, lv_nilPtr, lv_ptr, lv_nilSlice, lv_slice, lv_nilFunc, lv_func, lv_nilIface, lv_iface, lv_nilMap, lv_agg, lv_tuple, allLive, Bool.and_true, itemC, grpA, hlva, hlvb]
  repeat (with_reducible refine And.intro ?_ ?_; · first | trivial | omega | (intro hg; simp only [Bool.and_eq_true, Bool.or_eq_true, Bool.not_eq_true', Bool.and_eq_false_iff, Bool.or_eq_false_iff, Bool.not_eq_false', decide_eq_true_eq, decide_eq_false_iff_not, eqNil] at hg; omega) )
  apply hK; clear hK K
  -- region 1  pairs.go:71
  refine awp_rseq [4, 5] (by rfl) fun K hK => ?_
  simp (decide := true) only [aOps_nil, vOps_nil, fOps_nil, kOps_nil, ev, absV, absS, putD, Slots.put, Slots.get, Slots.keep, if_true, if_false, List.contains_cons, List.contains_nil, true_and, and_true, ↓ap_loadL, apL_mk, pLoad_agg ag35 sz35, rd_ne', ne_eq, not_false_eq_true, ne_0q1_0q0, ne_0q1_0q0.symm, lv_map, rd_any, AVal.cells, setAt, List.set_cons_zero, List.set_cons_succ, cellsAt, List.getD_cons_zero, List.getD_cons_succ, Nat.zero_add, Nat.reduceAdd, lv_bool, lv_int, lv_str, lv_nilPtr, lv_ptr, lv_nilSlice, lv_slice, lv_nilFunc, lv_func, lv_nilIface, lv_iface, lv_nilMap, lv_agg, lv_tuple, allLive, Bool.and_true, itemC, grpA, hlva, hlvb]
  repeat (with_reducible refine And.intro ?_ ?_; · first | trivial | omega | (intro hg; simp only [Bool.and_eq_true, Bool.or_eq_true, Bool.not_eq_true', Bool.and_eq_false_iff, Bool.or_eq_false_iff, Bool.not_eq_false', decide_eq_true_eq, decide_eq_false_iff_not, eqNil] at hg; omega) )
  refine aOps_call (by rfl) (by rfl) (c_among w₀ ht10 _ 19 va vb sza szb ga gb la lb (fun x y => decide (x.cat = 4) && decide (y.cat = 4)) (hga.mono (by repeat (first | exact Sub.refl _ | assumption | refine Sub.set_both ?_ _ _ | refine Sub.trans_set ?_ (by repeat (first | assumption | refine (AHeap.set_ne _ _ (by first | assumption | exact Ne.symm (by assumption))).trans ?_))))) (hgb.mono (by repeat (first | exact Sub.refl _ | assumption | refine Sub.set_both ?_ _ _ | refine Sub.trans_set ?_ (by repeat (first | assumption | refine (AHeap.set_ne _ _ (by first | assumption | exact Ne.symm (by assumption))).trans ?_))))) (fun g x y o q => c_isN w₀ g x y o q)) fun x1q2 h1q2 hx1q2 => ?_
  obtain ⟨outv, rfl, hL1, hcap1, hs1⟩ := hx1q2
  simp (decide := true) only [aOps_nil, vOps_nil, fOps_nil, kOps_nil, ev, absV, absS, putD, Slots.put, Slots.get, Slots.keep, if_true, if_false, List.contains_cons, List.contains_nil, true_and, and_true, ↓ap_extract, pop_extract, pExt_tuple, List.length_cons, List.length_nil, List.getD_cons_zero, List.getD_cons_succ, ↓ap_assign, pop_assign, rd_ne', ne_eq, not_false_eq_true, ne_0q1_0q0, ne_0q1_0q0.symm, lv_map, rd_any, AVal.cells, setAt, List.set_cons_zero, List.set_cons_succ, cellsAt, List.getD_cons_zero, List.getD_cons_succ, Nat.zero_add, Nat.reduceAdd, lv_bool, lv_int, lv_str, lv_nilPtr, lv_ptr, lv_nilSlice, lv_slice, lv_nilFunc, lv_func, lv_nilIface, lv_iface, lv_nilMap, lv_agg, lv_tuple, allLive, Bool.and_true, itemC, grpA, hlva, hlvb]
  repeat (with_reducible refine And.intro ?_ ?_; · first | trivial | omega | (intro hg; simp only [Bool.and_eq_true, Bool.or_eq_true, Bool.not_eq_true', Bool.and_eq_false_iff, Bool.or_eq_false_iff, Bool.not_eq_false', decide_eq_true_eq, decide_eq_false_iff_not, eqNil] at hg; omega) )
  apply hK; clear hK K
  refine awp_ret ?_
  try simp only [thenA_ret, inBlockA_ret]
  refine retA_retE (resPre_tmp (resPre_tmp (resPre_nil))) ?_
  simp (decide := true) only [aOps_nil, vOps_nil, fOps_nil, kOps_nil, ev, absV, absS, putD, Slots.put, Slots.get, Slots.keep, if_true, if_false, List.contains_cons, List.contains_nil, true_and, and_true, resOf_two, rd_ne', ne_eq, not_false_eq_true, ne_0q1_0q0, ne_0q1_0q0.symm, lv_map, rd_any, AVal.cells, setAt, List.set_cons_zero, List.set_cons_succ, cellsAt, List.getD_cons_zero, List.getD_cons_succ, Nat.zero_add, Nat.reduceAdd, lv_bool, lv_int, lv_str, lv_nilPtr, lv_ptr, lv_nilSlice, lv_slice, lv_nilFunc, lv_func, lv_nilIface, lv_iface, lv_nilMap, lv_agg, lv_tuple, allLive, Bool.and_true, itemC, grpA, hlva, hlvb]
  refine ⟨_, Sub.refl _, outv, rfl, hL1, hcap1, ?_⟩
  exact Sub.trans (by repeat (first | exact Sub.refl _ | assumption | refine Sub.set_both ?_ _ _ | refine Sub.trans_set ?_ (by repeat (first | assumption | refine (AHeap.set_ne _ _ (by first | assumption | exact Ne.symm (by assumption))).trans ?_)))) hs1
/-- What Path answers. -/
theorem c_Path (w₀ : World) (h : AHeap) (v : AVal) (sz g it : Int) (l : List (ItemP × ItemO)) (hv : IsL w₀ h 22 v (l.map itC)) (hl : l.length ≤ 100000) :
    ACall Tryd.prog w₀ 15 [grpA v sz g, .int .i64 it] h (fun r h' => ∃ pv, r = .tuple [pv, .int .i64 (pathR (items l) g it).2] ∧ IsL w₀ h' 1 pv ((pathR (items l) g it).1.map strC) ∧ capL pv = pv ∧ Sub h h') := by
  have hlv := hv.live
  have nv := it_len hv
  have hin := items_len l
  unfold grpA
  refine acall_intro (n := 37) (rs := [.tmp 4, .tmp 5]) Tryd.func15 rfl rfl rfl rfl (Nat.le_of_ble_eq_true rfl) ?_
  simp only [initSlots]
  -- region 0  pairs.go:109
  refine awp_rseq [1, 2] (by rfl) fun K hK => ?_
  refine aOps_box (by rfl) (by rfl) (by rfl) fun k0q0 hk0q0 => ?_
  try have hf_0q0 : h k0q0 = none := by first | assumption | (simp only [AHeap.set_none] at hk0q0; simp only [hk0q0])
  skip
  simp (decide := true) only [aOps_nil, vOps_nil, fOps_nil, kOps_nil, ev, absV, absS, putD, Slots.put, Slots.get, Slots.keep, if_true, if_false, List.contains_cons, List.contains_nil, true_and, and_true, ↓ap_assign, pop_assign, rd_ne', ne_eq, not_false_eq_true, lv_map, rd_any, AVal.cells, setAt, List.set_cons_zero, List.set_cons_succ, cellsAt, List.getD_cons_zero, List.getD_cons_succ, Nat.zero_add, Nat.reduceAdd, lv_bool, lv_int, lv_str, lv_nilPtr, lv_ptr, lv_nilSlice, lv_slice, lv_nilFunc, lv_func, lv_nilIface, lv_iface, lv_nilMap, lv_agg, lv_tuple, allLive, Bool.and_true, itemC, grpA, hlv, nv]
  repeat (with_reducible refine And.intro ?_ ?_; · first | trivial | omega | (intro hg; simp only [Bool.and_eq_true, Bool.or_eq_true, Bool.not_eq_true', Bool.and_eq_false_iff, Bool.or_eq_false_iff, Bool.not_eq_false', decide_eq_true_eq, decide_eq_false_iff_not, eqNil] at hg; omega) )
  apply hK; clear hK K
  -- region 1  pairs.go:110
  refine awp_rseq [1, 2, 6] (by rfl) fun K hK => ?_
  simp (decide := true) only [aOps_nil, vOps_nil, fOps_nil, kOps_nil, ev, absV, absS, putD, Slots.put, Slots.get, Slots.keep, if_true, if_false, List.contains_cons, List.contains_nil, true_and, and_true, ↓ap_loadL, apL_mk, pLoad_agg ag35 sz35, rd_ne', ne_eq, not_false_eq_true, lv_map, rd_any, AVal.cells, setAt, List.set_cons_zero, List.set_cons_succ, cellsAt, List.getD_cons_zero, List.getD_cons_succ, Nat.zero_add, Nat.reduceAdd, lv_bool, lv_int, lv_str, lv_nilPtr, lv_ptr, lv_nilSlice, lv_slice, lv_nilFunc, lv_func, lv_nilIface, lv_iface, lv_nilMap, lv_agg, lv_tuple, allLive, Bool.and_true, itemC, grpA, hlv, nv]
  repeat (with_reducible refine And.intro ?_ ?_; · first | trivial | omega | (intro hg; simp only [Bool.and_eq_true, Bool.or_eq_true, Bool.not_eq_true', Bool.and_eq_false_iff, Bool.or_eq_false_iff, Bool.not_eq_false', decide_eq_true_eq, decide_eq_false_iff_not, eqNil] at hg; omega) )
  refine aOps_callV (V := .int .i64 (checkE (items l) g)) (by rfl) (by rfl) (c_check w₀ _ v sz g l (hv.mono (by repeat (first | exact Sub.refl _ | assumption | refine Sub.set_both ?_ _ _ | refine Sub.trans_set ?_ (by repeat (first | assumption | refine (AHeap.set_ne _ _ (by first | assumption | exact Ne.symm (by assumption))).trans ?_))))) (by omega)) ?_
  simp (decide := true) only [aOps_nil, vOps_nil, fOps_nil, kOps_nil, ev, absV, absS, putD, Slots.put, Slots.get, Slots.keep, if_true, if_false, List.contains_cons, List.contains_nil, true_and, and_true, ↓ap_assign, pop_assign, rd_ne', ne_eq, not_false_eq_true, lv_map, rd_any, AVal.cells, setAt, List.set_cons_zero, List.set_cons_succ, cellsAt, List.getD_cons_zero, List.getD_cons_succ, Nat.zero_add, Nat.reduceAdd, lv_bool, lv_int, lv_str, lv_nilPtr, lv_ptr, lv_nilSlice, lv_slice, lv_nilFunc, lv_func, lv_nilIface, lv_iface, lv_nilMap, lv_agg, lv_tuple, allLive, Bool.and_true, itemC, grpA, hlv, nv]
  repeat (with_reducible refine And.intro ?_ ?_; · first | trivial | omega | (intro hg; simp only [Bool.and_eq_true, Bool.or_eq_true, Bool.not_eq_true', Bool.and_eq_false_iff, Bool.or_eq_false_iff, Bool.not_eq_false', decide_eq_true_eq, decide_eq_false_iff_not, eqNil] at hg; omega) )
  apply hK; clear hK K
  refine awp_seq ?_
  refine awp_block ?_
  -- region 2  pairs.go:112
  refine awp_rseq [1, 2, 6, 11] (by rfl) fun K hK => ?_
  simp (decide := true) only [aOps_nil, vOps_nil, fOps_nil, kOps_nil, ev, absV, absS, putD, Slots.put, Slots.get, Slots.keep, if_true, if_false, List.contains_cons, List.contains_nil, true_and, and_true, ↓ap_move, pop_move, ↓ap_binOp, pop_binOp, isNilC_int, cond_false, pBinX_int, pI_neq, ↓ap_assign, pop_assign, rd_ne', ne_eq, not_false_eq_true, lv_map, rd_any, AVal.cells, setAt, List.set_cons_zero, List.set_cons_succ, cellsAt, List.getD_cons_zero, List.getD_cons_succ, Nat.zero_add, Nat.reduceAdd, lv_bool, lv_int, lv_str, lv_nilPtr, lv_ptr, lv_nilSlice, lv_slice, lv_nilFunc, lv_func, lv_nilIface, lv_iface, lv_nilMap, lv_agg, lv_tuple, allLive, Bool.and_true, itemC, grpA, hlv, nv]
  repeat (with_reducible refine And.intro ?_ ?_; · first | trivial | omega | (intro hg; simp only [Bool.and_eq_true, Bool.or_eq_true, Bool.not_eq_true', Bool.and_eq_false_iff, Bool.or_eq_false_iff, Bool.not_eq_false', decide_eq_true_eq, decide_eq_false_iff_not, eqNil] at hg; omega) )
  apply hK; clear hK K
  refine awp_cond (b := _) rfl (fun hb1 => ?_) (fun hb1 => ?_)
  · try simp only [decide_eq_true_eq, decide_eq_false_iff_not, Bool.not_eq_true', Bool.not_eq_false', Bool.and_eq_true, Bool.and_eq_false_iff, Bool.or_eq_true, Bool.or_eq_false_iff, Bool.true_eq, Bool.false_eq, reduceCtorEq] at hb1
    -- region 3  pairs.go:113
    refine awp_rseq [4, 5] (by rfl) fun K hK => ?_
    simp (decide := true) only [aOps_nil, vOps_nil, fOps_nil, kOps_nil, ev, absV, absS, putD, Slots.put, Slots.get, Slots.keep, if_true, if_false, List.contains_cons, List.contains_nil, true_and, and_true, ↓ap_move, pop_move, ↓ap_assign, pop_assign, rd_ne', ne_eq, not_false_eq_true, lv_map, rd_any, AVal.cells, setAt, List.set_cons_zero, List.set_cons_succ, cellsAt, List.getD_cons_zero, List.getD_cons_succ, Nat.zero_add, Nat.reduceAdd, lv_bool, lv_int, lv_str, lv_nilPtr, lv_ptr, lv_nilSlice, lv_slice, lv_nilFunc, lv_func, lv_nilIface, lv_iface, lv_nilMap, lv_agg, lv_tuple, allLive, Bool.and_true, itemC, grpA, hlv, nv]
    repeat (with_reducible refine And.intro ?_ ?_; · first | trivial | omega | (intro hg; simp only [Bool.and_eq_true, Bool.or_eq_true, Bool.not_eq_true', Bool.and_eq_false_iff, Bool.or_eq_false_iff, Bool.not_eq_false', decide_eq_true_eq, decide_eq_false_iff_not, eqNil] at hg; omega) )
    apply hK; clear hK K
    refine awp_ret ?_
    try simp only [thenA_ret, inBlockA_ret]
    refine retA_ret h (by repeat (first | exact Sub.refl _ | assumption | refine Sub.trans_set ?_ (by assumption))) (resPre_tmp (resPre_tmp (resPre_nil))) ?_
    simp (decide := true) only [aOps_nil, vOps_nil, fOps_nil, kOps_nil, ev, absV, absS, putD, Slots.put, Slots.get, Slots.keep, if_true, if_false, List.contains_cons, List.contains_nil, true_and, and_true, resOf_two, rd_ne', ne_eq, not_false_eq_true, lv_map, rd_any, AVal.cells, setAt, List.set_cons_zero, List.set_cons_succ, cellsAt, List.getD_cons_zero, List.getD_cons_succ, Nat.zero_add, Nat.reduceAdd, lv_bool, lv_int, lv_str, lv_nilPtr, lv_ptr, lv_nilSlice, lv_slice, lv_nilFunc, lv_func, lv_nilIface, lv_iface, lv_nilMap, lv_agg, lv_tuple, allLive, Bool.and_true, itemC, grpA, hlv, nv]
    have e1 : pathR (items l) g it = ([], checkE (items l) g) := by unfold pathR; rw [if_pos hb1]
    rw [e1]
    exact ⟨.nilSlice, rfl, .nil, rfl, Sub.refl _⟩
  · try simp only [decide_eq_true_eq, decide_eq_false_iff_not, Bool.not_eq_true', Bool.not_eq_false', Bool.and_eq_true, Bool.and_eq_false_iff, Bool.or_eq_true, Bool.or_eq_false_iff, Bool.true_eq, Bool.false_eq, reduceCtorEq] at hb1
    have hc0 : ¬ checkE (items l) g ≠ 0 := fun q => q (by simpa using hb1)
    -- region 4  pairs.go:114
    refine awp_rseq [1, 2, 15] (by rfl) fun K hK => ?_
    simp (decide := true) only [aOps_nil, vOps_nil, fOps_nil, kOps_nil, ev, absV, absS, putD, Slots.put, Slots.get, Slots.keep, if_true, if_false, List.contains_cons, List.contains_nil, true_and, and_true, ↓ap_move, pop_move, ↓ap_binOp, pop_binOp, isNilC_int, cond_false, pBinX_int, pI_lss, ↓ag_move, agP, agQ_some, gv, nthDst, gKnown_bool, gKnown_cond, guardB_cond, guardB_bool_true, guardB_bool_false, cv_cv, implies_true, Bool.not_not, decide_true, decide_false, Bool.not_false, Bool.not_true, condV_true, condV_false, forall_const, false_implies, pickV_true, pickV_false, Bool.and_true, Bool.and_false, Bool.true_and, Bool.false_and, Bool.or_true, Bool.or_false, Bool.true_or, Bool.false_or, agL_deadT, agL_deadF, agL_deadU, ↓ag_fieldAddr, pop_fieldAddr, fa35_0, cv_fieldAddr, cp_fieldAddr, fa27_0, ↓ag_loadL, apL_mk, agQL_some, agL_mk, agL_ld1, agL_ld2, agL_ld3, agL_ld4, agL_ld5, agL_ld6, pLoad_one ag25, cv_load, cp_load, ↓ag_len, pop_len, pLen_slice Tryd.underlying25, pLen_nil Tryd.underlying25, cv_len, cp_len, ↓ag_binOp, isNilC_tmp, cv_binl, cv_binr, cp_binl, cp_binr, pI_geq, ↓ap_pick, pop_pick, pPick_bool, pickV_cond_l, pickV_cond_r, pickV_cond_rn, cp_nest1, cp_nest2, cp_nest3, cp_nest4, pickV_and, pickV_or, ↓ap_assign, pop_assign, rd_ne', ne_eq, not_false_eq_true, lv_map, rd_any, AVal.cells, setAt, List.set_cons_zero, List.set_cons_succ, cellsAt, List.getD_cons_zero, List.getD_cons_succ, Nat.zero_add, Nat.reduceAdd, lv_bool, lv_int, lv_str, lv_nilPtr, lv_ptr, lv_nilSlice, lv_slice, lv_nilFunc, lv_func, lv_nilIface, lv_iface, lv_nilMap, lv_agg, lv_tuple, allLive, Bool.and_true, itemC, grpA, hlv, nv]
    repeat (with_reducible refine And.intro ?_ ?_; · first | trivial | omega | (intro hg; simp only [Bool.and_eq_true, Bool.or_eq_true, Bool.not_eq_true', Bool.and_eq_false_iff, Bool.or_eq_false_iff, Bool.not_eq_false', decide_eq_true_eq, decide_eq_false_iff_not, eqNil] at hg; omega) )
    apply hK; clear hK K
    refine awp_cond (b := _) rfl (fun hb2 => ?_) (fun hb2 => ?_)
    · try simp only [decide_eq_true_eq, decide_eq_false_iff_not, Bool.not_eq_true', Bool.not_eq_false', Bool.and_eq_true, Bool.and_eq_false_iff, Bool.or_eq_true, Bool.or_eq_false_iff, Bool.true_eq, Bool.false_eq, reduceCtorEq] at hb2
      -- region 5  pairs.go:115
      refine awp_rseq [4, 5] (by rfl) fun K hK => ?_
      simp (decide := true) only [aOps_nil, vOps_nil, fOps_nil, kOps_nil, ev, absV, absS, putD, Slots.put, Slots.get, Slots.keep, if_true, if_false, List.contains_cons, List.contains_nil, true_and, and_true, ↓ap_assign, pop_assign, rd_ne', ne_eq, not_false_eq_true, lv_map, rd_any, AVal.cells, setAt, List.set_cons_zero, List.set_cons_succ, cellsAt, List.getD_cons_zero, List.getD_cons_succ, Nat.zero_add, Nat.reduceAdd, lv_bool, lv_int, lv_str, lv_nilPtr, lv_ptr, lv_nilSlice, lv_slice, lv_nilFunc, lv_func, lv_nilIface, lv_iface, lv_nilMap, lv_agg, lv_tuple, allLive, Bool.and_true, itemC, grpA, hlv, nv]
      repeat (with_reducible refine And.intro ?_ ?_; · first | trivial | omega | (intro hg; simp only [Bool.and_eq_true, Bool.or_eq_true, Bool.not_eq_true', Bool.and_eq_false_iff, Bool.or_eq_false_iff, Bool.not_eq_false', decide_eq_true_eq, decide_eq_false_iff_not, eqNil] at hg; omega) )
      apply hK; clear hK K
      refine awp_ret ?_
      try simp only [thenA_ret, inBlockA_ret]
      refine retA_ret h (by repeat (first | exact Sub.refl _ | assumption | refine Sub.trans_set ?_ (by assumption))) (resPre_tmp (resPre_tmp (resPre_nil))) ?_
      simp (decide := true) only [aOps_nil, vOps_nil, fOps_nil, kOps_nil, ev, absV, absS, putD, Slots.put, Slots.get, Slots.keep, if_true, if_false, List.contains_cons, List.contains_nil, true_and, and_true, resOf_two, rd_ne', ne_eq, not_false_eq_true, lv_map, rd_any, AVal.cells, setAt, List.set_cons_zero, List.set_cons_succ, cellsAt, List.getD_cons_zero, List.getD_cons_succ, Nat.zero_add, Nat.reduceAdd, lv_bool, lv_int, lv_str, lv_nilPtr, lv_ptr, lv_nilSlice, lv_slice, lv_nilFunc, lv_func, lv_nilIface, lv_iface, lv_nilMap, lv_agg, lv_tuple, allLive, Bool.and_true, itemC, grpA, hlv, nv]
      have e1 : pathR (items l) g it = ([], 1) := by
        unfold pathR
        rw [if_neg hc0, if_pos (by rw [hin]; omega)]
      rw [e1]
      exact ⟨.nilSlice, rfl, .nil, rfl, Sub.refl _⟩
    · try simp only [decide_eq_true_eq, decide_eq_false_iff_not, Bool.not_eq_true', Bool.not_eq_false', Bool.and_eq_true, Bool.and_eq_false_iff, Bool.or_eq_true, Bool.or_eq_false_iff, Bool.true_eq, Bool.false_eq, reduceCtorEq] at hb2
      have hit : ¬ (it < 0 ∨ ((items l).length : Int) ≤ it) := by rw [hin]; omega
      have hres : pathR (items l) g it = (match lookA it (pathsE (items l) g false) with | none => ([], 7) | some p => (p, 0)) := by
        unfold pathR
        rw [if_neg hc0, if_neg hit]
        try (cases lookA it (pathsE (items l) g false) <;> rfl)
      refine awp_skip ?_
      change Awp _ _ _ _ _ _ _
      -- region 6  pairs.go:117
      refine awp_rseq [7, 8] (by rfl) fun K hK => ?_
      simp (decide := true) only [aOps_nil, vOps_nil, fOps_nil, kOps_nil, ev, absV, absS, putD, Slots.put, Slots.get, Slots.keep, if_true, if_false, List.contains_cons, List.contains_nil, true_and, and_true, ↓ap_loadL, apL_mk, pLoad_agg ag35 sz35, rd_ne', ne_eq, not_false_eq_true, lv_map, rd_any, AVal.cells, setAt, List.set_cons_zero, List.set_cons_succ, cellsAt, List.getD_cons_zero, List.getD_cons_succ, Nat.zero_add, Nat.reduceAdd, lv_bool, lv_int, lv_str, lv_nilPtr, lv_ptr, lv_nilSlice, lv_slice, lv_nilFunc, lv_func, lv_nilIface, lv_iface, lv_nilMap, lv_agg, lv_tuple, allLive, Bool.and_true, itemC, grpA, hlv, nv]
      repeat (with_reducible refine And.intro ?_ ?_; · first | trivial | omega | (intro hg; simp only [Bool.and_eq_true, Bool.or_eq_true, Bool.not_eq_true', Bool.and_eq_false_iff, Bool.or_eq_false_iff, Bool.not_eq_false', decide_eq_true_eq, decide_eq_false_iff_not, eqNil] at hg; omega) )
      refine aOps_call (by rfl) (by rfl) (c_paths w₀ _ v sz g false l (hv.mono (by repeat (first | exact Sub.refl _ | assumption | refine Sub.set_both ?_ _ _ | refine Sub.trans_set ?_ (by repeat (first | assumption | refine (AHeap.set_ne _ _ (by first | assumption | exact Ne.symm (by assumption))).trans ?_))))) hl) fun x6q1 h6q1 hx6q1 => ?_
      obtain ⟨kp, cp, qs, rfl, hkp, hp6, hps, hs6⟩ := hx6q1
      obtain ⟨v0, hlk, hv0⟩ := look_paths hp6 it
      rw [hps] at hlk hv0
      have hlk6 := hlk _ (Sub.refl _)
      have hlv0 := hv0.live
      have hs_h6q1 : Sub h h6q1 := Sub.trans (by repeat (first | exact Sub.refl _ | assumption | refine Sub.trans_set ?_ (by assumption))) hs6
      have hr_h6q1 := hs_h6q1
      have eb_0q0 := hs6 k0q0 _ (by repeat (first | exact AHeap.set_same _ _ _ | assumption | refine (AHeap.set_ne _ _ (by first | assumption | exact Ne.symm (by assumption))).trans ?_))
      simp (decide := true) only [aOps_nil, vOps_nil, fOps_nil, kOps_nil, ev, absV, absS, putD, Slots.put, Slots.get, Slots.keep, if_true, if_false, List.contains_cons, List.contains_nil, true_and, and_true, ↓ap_move, pop_move, ↓ap_lookup, pop_lookup, ↓ap_extract, pop_extract, pExt_tuple, List.length_cons, List.length_nil, List.getD_cons_zero, List.getD_cons_succ, ↓ap_assign, pop_assign, rd_ne', ne_eq, not_false_eq_true, rd_own w₀ eb_0q0, lv_map, rd_any, AVal.cells, setAt, List.set_cons_zero, List.set_cons_succ, cellsAt, List.getD_cons_zero, List.getD_cons_succ, Nat.zero_add, Nat.reduceAdd, lv_bool, lv_int, lv_str, lv_nilPtr, lv_ptr, lv_nilSlice, lv_slice, lv_nilFunc, lv_func, lv_nilIface, lv_iface, lv_nilMap, lv_agg, lv_tuple, allLive, Bool.and_true, itemC, grpA, hlv, nv, hlk6]
      repeat (with_reducible refine And.intro ?_ ?_; · first | trivial | omega | (intro hg; simp only [Bool.and_eq_true, Bool.or_eq_true, Bool.not_eq_true', Bool.and_eq_false_iff, Bool.or_eq_false_iff, Bool.not_eq_false', decide_eq_true_eq, decide_eq_false_iff_not, eqNil] at hg; omega) )
      apply hK; clear hK K
      refine awp_seq ?_
      -- region 7  pairs.go:118
      refine awp_rseq [7, 34] (by rfl) fun K hK => ?_
      simp (decide := true) only [aOps_nil, vOps_nil, fOps_nil, kOps_nil, ev, absV, absS, putD, Slots.put, Slots.get, Slots.keep, if_true, if_false, List.contains_cons, List.contains_nil, true_and, and_true, ↓ap_move, pop_move, ↓ap_unOp, pop_unOp, pU_not, rd_ne', ne_eq, not_false_eq_true, rd_own w₀ eb_0q0, lv_map, rd_any, AVal.cells, setAt, List.set_cons_zero, List.set_cons_succ, cellsAt, List.getD_cons_zero, List.getD_cons_succ, Nat.zero_add, Nat.reduceAdd, lv_bool, lv_int, lv_str, lv_nilPtr, lv_ptr, lv_nilSlice, lv_slice, lv_nilFunc, lv_func, lv_nilIface, lv_iface, lv_nilMap, lv_agg, lv_tuple, allLive, Bool.and_true, itemC, grpA, hlv0]
      try simp (disch := omega) only [wrap_i64, wrap_u8]
      repeat (with_reducible refine And.intro ?_ ?_; · first | trivial | omega | (intro hg; simp only [Bool.and_eq_true, Bool.or_eq_true, Bool.not_eq_true', Bool.and_eq_false_iff, Bool.or_eq_false_iff, Bool.not_eq_false', decide_eq_true_eq, decide_eq_false_iff_not, eqNil] at hg; omega) )
      apply hK; clear hK K
      refine awp_cond (b := _) rfl (fun hb3 => ?_) (fun hb3 => ?_)
      · try simp only [decide_eq_true_eq, decide_eq_false_iff_not, Bool.not_eq_true', Bool.not_eq_false', Bool.and_eq_true, Bool.and_eq_false_iff, Bool.or_eq_true, Bool.or_eq_false_iff, Bool.true_eq, Bool.false_eq, reduceCtorEq] at hb3
        -- region 8  pairs.go:119
        refine awp_rseq [4, 5] (by rfl) fun K hK => ?_
        simp (decide := true) only [aOps_nil, vOps_nil, fOps_nil, kOps_nil, ev, absV, absS, putD, Slots.put, Slots.get, Slots.keep, if_true, if_false, List.contains_cons, List.contains_nil, true_and, and_true, ↓ap_assign, pop_assign, rd_ne', ne_eq, not_false_eq_true, rd_own w₀ eb_0q0, lv_map, rd_any, AVal.cells, setAt, List.set_cons_zero, List.set_cons_succ, cellsAt, List.getD_cons_zero, List.getD_cons_succ, Nat.zero_add, Nat.reduceAdd, lv_bool, lv_int, lv_str, lv_nilPtr, lv_ptr, lv_nilSlice, lv_slice, lv_nilFunc, lv_func, lv_nilIface, lv_iface, lv_nilMap, lv_agg, lv_tuple, allLive, Bool.and_true, itemC, grpA, hlv0]
        repeat (with_reducible refine And.intro ?_ ?_; · first | trivial | omega | (intro hg; simp only [Bool.and_eq_true, Bool.or_eq_true, Bool.not_eq_true', Bool.and_eq_false_iff, Bool.or_eq_false_iff, Bool.not_eq_false', decide_eq_true_eq, decide_eq_false_iff_not, eqNil] at hg; omega) )
        apply hK; clear hK K
        refine awp_ret ?_
        try simp only [thenA_ret, inBlockA_ret]
        refine retA_ret h (by repeat (first | exact Sub.refl _ | assumption | refine Sub.trans_set ?_ (by assumption))) (resPre_tmp (resPre_tmp (resPre_nil))) ?_
        simp (decide := true) only [aOps_nil, vOps_nil, fOps_nil, kOps_nil, ev, absV, absS, putD, Slots.put, Slots.get, Slots.keep, if_true, if_false, List.contains_cons, List.contains_nil, true_and, and_true, resOf_two, rd_ne', ne_eq, not_false_eq_true, rd_own w₀ eb_0q0, lv_map, rd_any, AVal.cells, setAt, List.set_cons_zero, List.set_cons_succ, cellsAt, List.getD_cons_zero, List.getD_cons_succ, Nat.zero_add, Nat.reduceAdd, lv_bool, lv_int, lv_str, lv_nilPtr, lv_ptr, lv_nilSlice, lv_slice, lv_nilFunc, lv_func, lv_nilIface, lv_iface, lv_nilMap, lv_agg, lv_tuple, allLive, Bool.and_true, itemC, grpA, hlv0]
        have hn : lookA it (pathsE (items l) g false) = none := by simpa using hb3
        rw [hn] at hres
        rw [hres]
        exact ⟨.nilSlice, rfl, .nil, rfl, Sub.refl _⟩
      · try simp only [decide_eq_true_eq, decide_eq_false_iff_not, Bool.not_eq_true', Bool.not_eq_false', Bool.and_eq_true, Bool.and_eq_false_iff, Bool.or_eq_true, Bool.or_eq_false_iff, Bool.true_eq, Bool.false_eq, reduceCtorEq] at hb3
        obtain ⟨p, hp⟩ : ∃ p, lookA it (pathsE (items l) g false) = some p := Option.isSome_iff_exists.1 (by simpa using hb3)
        rw [hp] at hres hv0
        simp only [Option.getD_some] at hv0
        refine awp_skip ?_
        change Awp _ _ _ _ _ _ _
        -- region 9  pairs.go:121
        refine awp_rseq [4, 5] (by rfl) fun K hK => ?_
        simp (decide := true) only [aOps_nil, vOps_nil, fOps_nil, kOps_nil, ev, absV, absS, putD, Slots.put, Slots.get, Slots.keep, if_true, if_false, List.contains_cons, List.contains_nil, true_and, and_true, ↓ap_move, pop_move, rd_ne', ne_eq, not_false_eq_true, rd_own w₀ eb_0q0, lv_map, rd_any, AVal.cells, setAt, List.set_cons_zero, List.set_cons_succ, cellsAt, List.getD_cons_zero, List.getD_cons_succ, Nat.zero_add, Nat.reduceAdd, lv_bool, lv_int, lv_str, lv_nilPtr, lv_ptr, lv_nilSlice, lv_slice, lv_nilFunc, lv_func, lv_nilIface, lv_iface, lv_nilMap, lv_agg, lv_tuple, allLive, Bool.and_true, itemC, grpA, hlv0]
        repeat (with_reducible refine And.intro ?_ ?_; · first | trivial | omega | (intro hg; simp only [Bool.and_eq_true, Bool.or_eq_true, Bool.not_eq_true', Bool.and_eq_false_iff, Bool.or_eq_false_iff, Bool.not_eq_false', decide_eq_true_eq, decide_eq_false_iff_not, eqNil] at hg; omega) )
        refine aOps_callV (V := capL v0) (by rfl) (by rfl) (c_clipS w₀ _ v0 _ hv0) ?_
        simp (decide := true) only [aOps_nil, vOps_nil, fOps_nil, kOps_nil, ev, absV, absS, putD, Slots.put, Slots.get, Slots.keep, if_true, if_false, List.contains_cons, List.contains_nil, true_and, and_true, ↓ap_assign, pop_assign, rd_ne', ne_eq, not_false_eq_true, rd_own w₀ eb_0q0, lv_map, rd_any, AVal.cells, setAt, List.set_cons_zero, List.set_cons_succ, cellsAt, List.getD_cons_zero, List.getD_cons_succ, Nat.zero_add, Nat.reduceAdd, lv_bool, lv_int, lv_str, lv_nilPtr, lv_ptr, lv_nilSlice, lv_slice, lv_nilFunc, lv_func, lv_nilIface, lv_iface, lv_nilMap, lv_agg, lv_tuple, allLive, Bool.and_true, itemC, grpA, hlv0]
        repeat (with_reducible refine And.intro ?_ ?_; · first | trivial | omega | (intro hg; simp only [Bool.and_eq_true, Bool.or_eq_true, Bool.not_eq_true', Bool.and_eq_false_iff, Bool.or_eq_false_iff, Bool.not_eq_false', decide_eq_true_eq, decide_eq_false_iff_not, eqNil] at hg; omega) )
        apply hK; clear hK K
        refine awp_ret ?_
        try simp only [thenA_ret, inBlockA_ret]
        refine retA_retE (resPre_tmp (resPre_tmp (resPre_nil))) ?_
        simp (decide := true) only [aOps_nil, vOps_nil, fOps_nil, kOps_nil, ev, absV, absS, putD, Slots.put, Slots.get, Slots.keep, if_true, if_false, List.contains_cons, List.contains_nil, true_and, and_true, resOf_two, rd_ne', ne_eq, not_false_eq_true, rd_own w₀ eb_0q0, lv_map, rd_any, AVal.cells, setAt, List.set_cons_zero, List.set_cons_succ, cellsAt, List.getD_cons_zero, List.getD_cons_succ, Nat.zero_add, Nat.reduceAdd, lv_bool, lv_int, lv_str, lv_nilPtr, lv_ptr, lv_nilSlice, lv_slice, lv_nilFunc, lv_func, lv_nilIface, lv_iface, lv_nilMap, lv_agg, lv_tuple, allLive, Bool.and_true, itemC, grpA, hlv0]
        exact ⟨_, Sub.refl _, capL v0, by rw [hres], by rw [hres]; exact hv0.clip, by cases v0 <;> rfl, hs_h6q1⟩
end Go.Proofs.YtgnebodlkfblcaaDoor

/-
  Contracts: the laws' own functions: same, path, group.
  Conditions: none.
-/
namespace Go.AM
/-- What of a heap was not told before. -/
def offH (h h' : AHeap) : AHeap := fun j => if (h j).isSome then none else h' j
theorem offH_sub (h h' : AHeap) : Sub (offH h h') h' := fun j d hj => by
  unfold offH at hj
  split at hj
  · cases hj
  · exact hj
theorem offH_new {h h' : AHeap} {k : Nat} (hk : h k = none) : offH h h' k = h' k := by
  unfold offH
  rw [hk]
  rfl
theorem offH_old {h h' : AHeap} {k : Nat} {d : Blk} (hk : h k = some d) : offH h h' k = none := by
  unfold offH
  rw [hk]
  rfl
/-- Elements behind a full slice that was not told before. -/
theorem aOps_appendOff {P : Program} {w₀ : World} {ops rest : List Oper} {s : Slots} {h H : AHeap} {K : Slots → AHeap → Prop} {dst : Option Tmp} {ty : TypeId} {pos : String} {af : Array Edge} {ts : Array TypeId} {t u e : TypeId} {d : TypeDesc} {x y : Operand} {v v' : AVal} {es by' : Nat} {z : Value} {xs ys : List (List AVal)} (hsub : Sub h H)
    (h0 : ts[0]? = some t) (h1 : ts[1]? = some u) (ht : P.underlying t = some (.slice e)) (hu : P.underlying u = some d) (hd : ∀ k, d ≠ .int k)
    (hs : szOf P e = some es) (hb : byOf P e = some by') (hz : zeOf P e = some z) (hzs : z.cells.size = es) (hes : es ≠ 0)
    (hx : ev s x = capL v) (hv : IsL w₀ (offH h H) es v xs) (hy : ev s y = v') (hv' : IsL w₀ H es v' ys)
    (hl : (xs.length + ys.length) * by' ≤ 140737488355328) (hl' : xs.length + ys.length < 4611686018427387904)
    (hk : ∀ r H', IsL w₀ (offH h H') es r (xs ++ ys) → Sub H H' → aOps P w₀ ops rest (putD s dst r) H' K) :
    aOps P w₀ ops (⟨dst, .call ⟨.builtin .append, [x, y].toArray, ts⟩, ty, pos, af, none⟩ :: rest) s H K := by
  have hvH := hv.mono (offH_sub h H)
  by_cases hne : ys.length = 0
  · have hys : ys = [] := List.eq_nil_of_length_eq_zero hne
    subst hys
    obtain ⟨s1, s2, s3⟩ := hv'.src
    have hc := hk (capL v) H (by rw [List.append_nil]; exact hv.clip) (Sub.refl H)
    rw [aOps_e]
    simp only [eop, evs, List.map_cons, List.map_nil, hx, hy, eAppend, h0, h1, ht, hu, hs, hb, hz, s1]
    refine ⟨hd, ⟨hes, hzs⟩, s2, ?_⟩
    cases hvH with
    | nil => exact ⟨fun _ => hc, fun e0 => absurd rfl e0⟩
    | mk lc o n c xs hn hw hcs hl2 hcap =>
      simp only [capL] at hc ⊢
      exact ⟨fun _ => .inl ⟨rfl, hc⟩, fun q => by simp at q⟩
  · refine aOps_appendClip h0 h1 ht hu hd hs hb hz hzs hes hx hvH hy hv' hne hl hl' fun k hk0 hL => hk _ _ ?_ (Sub.set hk0)
    have hw : ∀ x ∈ xs ++ ys, x.length = es := fun x hx => by
      rcases List.mem_append.1 hx with h | h
      · exact hvH.wide x h
      · exact hv'.wide x h
    rw [← List.length_append]
    refine IsL.own (b := ⟨(xs ++ ys).flatten, 0⟩) ?_ hw rfl hL.allLive (.grow es) rfl
    rw [offH_new (hsub.none hk0), AHeap.set_same]
end Go.AM
namespace Go.Proofs.YtgnebodlkfblcaaDoor
open Go.AM
open Go.Proofs
open Go.Col
open Go.Prs
open Go.RowKit (Below)
set_option maxRecDepth 100000

theorem drop_cmp {p q : List Str} {i : Nat} (hp : i < p.length) (hq : i < q.length) : decide (p.drop i = q.drop i) = (decide (p.getD i [] = q.getD i []) && decide (p.drop (i + 1) = q.drop (i + 1))) := by
  rw [List.drop_eq_getElem_cons hp, List.drop_eq_getElem_cons hq]
  simp only [List.getD, List.getElem?_eq_getElem hp, List.getElem?_eq_getElem hq, Option.getD_some]
  rw [← Bool.decide_and]
  exact decide_eq_decide.2 (by rw [List.cons.injEq])
theorem c_sameL (w₀ : World) (h : AHeap) (v w : AVal) (p q : List Str) (hv : IsL w₀ h 1 v (p.map strC)) (hw : IsL w₀ h 1 w (q.map strC)) (hp : p.length ≤ 1000000) :
    ACall Tryd.prog w₀ 16 [v, w] h (fun r h' => r = .bool (decide (p = q)) ∧ h' = h) := by
  have hlv := hv.live
  have hlw := hw.live
  have nv := path_len hv
  have nw := path_len hw
  refine acall_intro (n := 26) (rs := [.tmp 4]) Tryd.func16 rfl rfl rfl rfl (Nat.le_of_ble_eq_true rfl) ?_
  simp only [initSlots]
  -- region 0  law.go:94
  refine awp_rseq [0, 1] (by rfl) fun K hK => ?_
  simp (decide := true) only [aOps_nil, vOps_nil, fOps_nil, kOps_nil, ev, absV, absS, putD, Slots.put, Slots.get, Slots.keep, if_true, if_false, List.contains_cons, List.contains_nil, true_and, and_true, ↓ap_assign, pop_assign, rd_ne', ne_eq, not_false_eq_true, lv_map, rd_any, AVal.cells, setAt, List.set_cons_zero, List.set_cons_succ, cellsAt, List.getD_cons_zero, List.getD_cons_succ, Nat.zero_add, Nat.reduceAdd, lv_bool, lv_int, lv_str, lv_nilPtr, lv_ptr, lv_nilSlice, lv_slice, lv_nilFunc, lv_func, lv_nilIface, lv_iface, lv_nilMap, lv_agg, lv_tuple, allLive, Bool.and_true, itemC, grpA, hlv, hlw, nv, nw]
  repeat (with_reducible refine And.intro ?_ ?_; · first | trivial | omega | (intro hg; simp only [Bool.and_eq_true, Bool.or_eq_true, Bool.not_eq_true', Bool.and_eq_false_iff, Bool.or_eq_false_iff, Bool.not_eq_false', decide_eq_true_eq, decide_eq_false_iff_not, eqNil] at hg; omega) )
  apply hK; clear hK K
  refine awp_seq ?_
  -- region 1  law.go:95
  refine awp_rseq [0, 1, 10] (by rfl) fun K hK => ?_
  simp (decide := true) only [aOps_nil, vOps_nil, fOps_nil, kOps_nil, ev, absV, absS, putD, Slots.put, Slots.get, Slots.keep, if_true, if_false, List.contains_cons, List.contains_nil, true_and, and_true, ↓ap_move, pop_move, ↓ap_len, pop_len, pLen_slice Tryd.underlying48, pLen_nil Tryd.underlying48, ↓ap_binOp, pop_binOp, isNilC_tmp, cond_false, pBinX_int, pI_neq, rd_ne', ne_eq, not_false_eq_true, lv_map, rd_any, AVal.cells, setAt, List.set_cons_zero, List.set_cons_succ, cellsAt, List.getD_cons_zero, List.getD_cons_succ, Nat.zero_add, Nat.reduceAdd, lv_bool, lv_int, lv_str, lv_nilPtr, lv_ptr, lv_nilSlice, lv_slice, lv_nilFunc, lv_func, lv_nilIface, lv_iface, lv_nilMap, lv_agg, lv_tuple, allLive, Bool.and_true, itemC, grpA, hlv, hlw, nv, nw]
  repeat (with_reducible refine And.intro ?_ ?_; · first | trivial | omega | (intro hg; simp only [Bool.and_eq_true, Bool.or_eq_true, Bool.not_eq_true', Bool.and_eq_false_iff, Bool.or_eq_false_iff, Bool.not_eq_false', decide_eq_true_eq, decide_eq_false_iff_not, eqNil] at hg; omega) )
  apply hK; clear hK K
  refine awp_cond (b := _) rfl (fun hb1 => ?_) (fun hb1 => ?_)
  · try simp only [decide_eq_true_eq, decide_eq_false_iff_not, Bool.not_eq_true', Bool.not_eq_false', Bool.and_eq_true, Bool.and_eq_false_iff, Bool.or_eq_true, Bool.or_eq_false_iff, Bool.true_eq, Bool.false_eq, reduceCtorEq] at hb1
    -- region 2  law.go:96
    refine awp_rseq [4] (by rfl) fun K hK => ?_
    simp (decide := true) only [aOps_nil, vOps_nil, fOps_nil, kOps_nil, ev, absV, absS, putD, Slots.put, Slots.get, Slots.keep, if_true, if_false, List.contains_cons, List.contains_nil, true_and, and_true, ↓ap_assign, pop_assign, rd_ne', ne_eq, not_false_eq_true, lv_map, rd_any, AVal.cells, setAt, List.set_cons_zero, List.set_cons_succ, cellsAt, List.getD_cons_zero, List.getD_cons_succ, Nat.zero_add, Nat.reduceAdd, lv_bool, lv_int, lv_str, lv_nilPtr, lv_ptr, lv_nilSlice, lv_slice, lv_nilFunc, lv_func, lv_nilIface, lv_iface, lv_nilMap, lv_agg, lv_tuple, allLive, Bool.and_true, itemC, grpA, hlv, hlw, nv, nw]
    repeat (with_reducible refine And.intro ?_ ?_; · first | trivial | omega | (intro hg; simp only [Bool.and_eq_true, Bool.or_eq_true, Bool.not_eq_true', Bool.and_eq_false_iff, Bool.or_eq_false_iff, Bool.not_eq_false', decide_eq_true_eq, decide_eq_false_iff_not, eqNil] at hg; omega) )
    apply hK; clear hK K
    refine awp_ret ?_
    try simp only [thenA_ret, inBlockA_ret]
    refine retA_ret h (by repeat (first | exact Sub.refl _ | assumption | refine Sub.trans_set ?_ (by assumption))) (resPre_tmp (resPre_nil)) ?_
    simp (decide := true) only [aOps_nil, vOps_nil, fOps_nil, kOps_nil, ev, absV, absS, putD, Slots.put, Slots.get, Slots.keep, if_true, if_false, List.contains_cons, List.contains_nil, true_and, and_true, resOf_one, rd_ne', ne_eq, not_false_eq_true, lv_map, rd_any, AVal.cells, setAt, List.set_cons_zero, List.set_cons_succ, cellsAt, List.getD_cons_zero, List.getD_cons_succ, Nat.zero_add, Nat.reduceAdd, lv_bool, lv_int, lv_str, lv_nilPtr, lv_ptr, lv_nilSlice, lv_slice, lv_nilFunc, lv_func, lv_nilIface, lv_iface, lv_nilMap, lv_agg, lv_tuple, allLive, Bool.and_true, itemC, grpA, hlv, hlw, nv, nw]
    rw [decide_eq_false (fun e => by subst e; exact hb1 rfl)]
  · try simp only [decide_eq_true_eq, decide_eq_false_iff_not, Bool.not_eq_true', Bool.not_eq_false', Bool.and_eq_true, Bool.and_eq_false_iff, Bool.or_eq_true, Bool.or_eq_false_iff, Bool.true_eq, Bool.false_eq, reduceCtorEq] at hb1
    have hlen : p.length = q.length := by omega
    refine awp_skip ?_
    change Awp _ _ _ _ _ _ _
    refine awp_seq ?_
    -- region 3  law.go:98
    refine awp_rseq [0, 1, 5] (by rfl) fun K hK => ?_
    simp (decide := true) only [aOps_nil, vOps_nil, fOps_nil, kOps_nil, ev, absV, absS, putD, Slots.put, Slots.get, Slots.keep, if_true, if_false, List.contains_cons, List.contains_nil, true_and, and_true, ↓ap_assign, pop_assign, rd_ne', ne_eq, not_false_eq_true, lv_map, rd_any, AVal.cells, setAt, List.set_cons_zero, List.set_cons_succ, cellsAt, List.getD_cons_zero, List.getD_cons_succ, Nat.zero_add, Nat.reduceAdd, lv_bool, lv_int, lv_str, lv_nilPtr, lv_ptr, lv_nilSlice, lv_slice, lv_nilFunc, lv_func, lv_nilIface, lv_iface, lv_nilMap, lv_agg, lv_tuple, allLive, Bool.and_true, itemC, grpA, hlv, hlw, nv, nw]
    repeat (with_reducible refine And.intro ?_ ?_; · first | trivial | omega | (intro hg; simp only [Bool.and_eq_true, Bool.or_eq_true, Bool.not_eq_true', Bool.and_eq_false_iff, Bool.or_eq_false_iff, Bool.not_eq_false', decide_eq_true_eq, decide_eq_false_iff_not, eqNil] at hg; omega) )
    apply hK; clear hK K
    refine awp_block ?_
    refine awp_loopG [0, 1, 5] (fun i : Nat => [(0, v), (1, w), (5, .int .i64 i)]) (fun i : Nat => h) (fun i : Nat => i ≤ p.length ∧ decide (p.drop i = q.drop i) = decide (p = q)) (fun i : Nat => p.length - i) 0 (by rfl) (Sub.refl _) ⟨Nat.zero_le _, rfl⟩ ?_
    rintro i ⟨hi, hq⟩
    refine awp_seq ?_
    -- region 4  law.go:98
    refine awp_rseq [0, 1, 5, 14] (by rfl) fun K hK => ?_
    simp (decide := true) only [aOps_nil, vOps_nil, fOps_nil, kOps_nil, ev, absV, absS, putD, Slots.put, Slots.get, Slots.keep, if_true, if_false, List.contains_cons, List.contains_nil, true_and, and_true, ↓ap_move, pop_move, ↓ap_len, pop_len, pLen_slice Tryd.underlying48, pLen_nil Tryd.underlying48, ↓ap_binOp, pop_binOp, isNilC_tmp, cond_false, pBinX_int, pI_lss, rd_ne', ne_eq, not_false_eq_true, lv_map, rd_any, AVal.cells, setAt, List.set_cons_zero, List.set_cons_succ, cellsAt, List.getD_cons_zero, List.getD_cons_succ, Nat.zero_add, Nat.reduceAdd, lv_bool, lv_int, lv_str, lv_nilPtr, lv_ptr, lv_nilSlice, lv_slice, lv_nilFunc, lv_func, lv_nilIface, lv_iface, lv_nilMap, lv_agg, lv_tuple, allLive, Bool.and_true, itemC, grpA, hlv, hlw, nv, nw]
    repeat (with_reducible refine And.intro ?_ ?_; · first | trivial | omega | (intro hg; simp only [Bool.and_eq_true, Bool.or_eq_true, Bool.not_eq_true', Bool.and_eq_false_iff, Bool.or_eq_false_iff, Bool.not_eq_false', decide_eq_true_eq, decide_eq_false_iff_not, eqNil] at hg; omega) )
    apply hK; clear hK K
    refine awp_cond (b := _) rfl (fun hb2 => ?_) (fun hb2 => ?_)
    · try simp only [decide_eq_true_eq, decide_eq_false_iff_not, Bool.not_eq_true', Bool.not_eq_false', Bool.and_eq_true, Bool.and_eq_false_iff, Bool.or_eq_true, Bool.or_eq_false_iff, Bool.true_eq, Bool.false_eq, reduceCtorEq] at hb2
      have hi' : i < p.length := by omega
      obtain ⟨lc, o, c, rfl⟩ := path_open hv (by omega)
      obtain ⟨lc', o', c', rfl⟩ := path_open hw (by omega)
      have e1 := path_at hv hi'
      have e2 := path_at hw (i := i) (by omega)
      rw [drop_cmp hi' (by omega)] at hq
      refine awp_skip ?_
      change Awp _ _ _ _ _ _ _
      refine awp_seq ?_
      refine awp_block ?_
      -- region 6  law.go:99
      refine awp_dseq_all [0, 1, 5, 25] mixed (by kernel_rfl) (by rfl) (by rfl) fun K hK => ?_
      simp (decide := true) only [aOps_nil, vOps_nil, fOps_nil, kOps_nil, ev, absV, absS, putD, Slots.put, Slots.get, Slots.keep, if_true, if_false, List.contains_cons, List.contains_nil, true_and, and_true, ↓ap_move, pop_move, ↓ap_indexAddrL, apL_mk, pIndexAddr_slice Tryd.underlying48 sz9, ↓ap_loadL, pLoad_one ag9, ↓ap_binOp, pop_binOp, isNilC_tmp, cond_false, pBinX_str, pS_neq, rd_ne', ne_eq, not_false_eq_true, lv_map, rd_any, AVal.cells, setAt, List.set_cons_zero, List.set_cons_succ, cellsAt, List.getD_cons_zero, List.getD_cons_succ, Nat.zero_add, Nat.reduceAdd, lv_bool, lv_int, lv_str, lv_nilPtr, lv_ptr, lv_nilSlice, lv_slice, lv_nilFunc, lv_func, lv_nilIface, lv_iface, lv_nilMap, lv_agg, lv_tuple, allLive, Bool.and_true, itemC, grpA, hlv, hlw, nv, nw, e1, e2, Int.toNat_natCast]
      repeat (with_reducible refine And.intro ?_ ?_; · first | trivial | omega | (intro hg; simp only [Bool.and_eq_true, Bool.or_eq_true, Bool.not_eq_true', Bool.and_eq_false_iff, Bool.or_eq_false_iff, Bool.not_eq_false', decide_eq_true_eq, decide_eq_false_iff_not, eqNil] at hg; omega) )
      apply hK; clear hK K
      refine awp_cond (b := _) rfl (fun hb3 => ?_) (fun hb3 => ?_)
      · try simp only [decide_eq_true_eq, decide_eq_false_iff_not, Bool.not_eq_true', Bool.not_eq_false', Bool.and_eq_true, Bool.and_eq_false_iff, Bool.or_eq_true, Bool.or_eq_false_iff, Bool.true_eq, Bool.false_eq, reduceCtorEq] at hb3
        -- region 7  law.go:100
        refine awp_rseq [4] (by rfl) fun K hK => ?_
        simp (decide := true) only [aOps_nil, vOps_nil, fOps_nil, kOps_nil, ev, absV, absS, putD, Slots.put, Slots.get, Slots.keep, if_true, if_false, List.contains_cons, List.contains_nil, true_and, and_true, ↓ap_assign, pop_assign, rd_ne', ne_eq, not_false_eq_true, lv_map, rd_any, AVal.cells, setAt, List.set_cons_zero, List.set_cons_succ, cellsAt, List.getD_cons_zero, List.getD_cons_succ, Nat.zero_add, Nat.reduceAdd, lv_bool, lv_int, lv_str, lv_nilPtr, lv_ptr, lv_nilSlice, lv_slice, lv_nilFunc, lv_func, lv_nilIface, lv_iface, lv_nilMap, lv_agg, lv_tuple, allLive, Bool.and_true, itemC, grpA, hlv, hlw, nv, nw]
        repeat (with_reducible refine And.intro ?_ ?_; · first | trivial | omega | (intro hg; simp only [Bool.and_eq_true, Bool.or_eq_true, Bool.not_eq_true', Bool.and_eq_false_iff, Bool.or_eq_false_iff, Bool.not_eq_false', decide_eq_true_eq, decide_eq_false_iff_not, eqNil] at hg; omega) )
        apply hK; clear hK K
        refine awp_ret ?_
        try simp only [thenA_ret, inBlockA_ret]
        refine retA_ret h (by repeat (first | exact Sub.refl _ | assumption | refine Sub.trans_set ?_ (by assumption))) (resPre_tmp (resPre_nil)) ?_
        simp (decide := true) only [aOps_nil, vOps_nil, fOps_nil, kOps_nil, ev, absV, absS, putD, Slots.put, Slots.get, Slots.keep, if_true, if_false, List.contains_cons, List.contains_nil, true_and, and_true, resOf_one, rd_ne', ne_eq, not_false_eq_true, lv_map, rd_any, AVal.cells, setAt, List.set_cons_zero, List.set_cons_succ, cellsAt, List.getD_cons_zero, List.getD_cons_succ, Nat.zero_add, Nat.reduceAdd, lv_bool, lv_int, lv_str, lv_nilPtr, lv_ptr, lv_nilSlice, lv_slice, lv_nilFunc, lv_func, lv_nilIface, lv_iface, lv_nilMap, lv_agg, lv_tuple, allLive, Bool.and_true, itemC, grpA, hlv, hlw, nv, nw]
        rw [← hq, decide_eq_false hb3, Bool.false_and]
      · try simp only [decide_eq_true_eq, decide_eq_false_iff_not, Bool.not_eq_true', Bool.not_eq_false', Bool.and_eq_true, Bool.and_eq_false_iff, Bool.or_eq_true, Bool.or_eq_false_iff, Bool.true_eq, Bool.false_eq, reduceCtorEq] at hb3
        refine awp_skip ?_
        change Awp _ _ _ _ _ _ _
        -- region 5  law.go:98
        refine awp_r [0, 1, 5] (by rfl) ?_
        simp (decide := true) only [aOps_nil, vOps_nil, fOps_nil, kOps_nil, ev, absV, absS, putD, Slots.put, Slots.get, Slots.keep, if_true, if_false, List.contains_cons, List.contains_nil, true_and, and_true, ↓ap_move, pop_move, ↓ap_binOp, pop_binOp, isNilC_int, cond_false, pBinX_int, pI_add, ↓ap_assign, pop_assign, rd_ne', ne_eq, not_false_eq_true, lv_map, rd_any, AVal.cells, setAt, List.set_cons_zero, List.set_cons_succ, cellsAt, List.getD_cons_zero, List.getD_cons_succ, Nat.zero_add, Nat.reduceAdd, lv_bool, lv_int, lv_str, lv_nilPtr, lv_ptr, lv_nilSlice, lv_slice, lv_nilFunc, lv_func, lv_nilIface, lv_iface, lv_nilMap, lv_agg, lv_tuple, allLive, Bool.and_true, itemC, grpA, hlv, hlw, nv, nw]
        try simp (disch := omega) only [wrap_i64, wrap_u8]
        repeat (with_reducible refine And.intro ?_ ?_; · first | trivial | omega | (intro hg; simp only [Bool.and_eq_true, Bool.or_eq_true, Bool.not_eq_true', Bool.and_eq_false_iff, Bool.or_eq_false_iff, Bool.not_eq_false', decide_eq_true_eq, decide_eq_false_iff_not, eqNil] at hg; omega) )
        try simp only [thenA_normal, inBlockA_normal]
        exact ⟨i + 1, rfl, Sub.refl _, ⟨hi', by rw [← hq, decide_eq_true hb3, Bool.true_and]⟩, by omega⟩
    · try simp only [decide_eq_true_eq, decide_eq_false_iff_not, Bool.not_eq_true', Bool.not_eq_false', Bool.and_eq_true, Bool.and_eq_false_iff, Bool.or_eq_true, Bool.or_eq_false_iff, Bool.true_eq, Bool.false_eq, reduceCtorEq] at hb2
      refine awp_exit ?_
      change Awp _ _ _ _ _ _ _
      -- region 8  law.go:103
      refine awp_rseq [4] (by rfl) fun K hK => ?_
      simp (decide := true) only [aOps_nil, vOps_nil, fOps_nil, kOps_nil, ev, absV, absS, putD, Slots.put, Slots.get, Slots.keep, if_true, if_false, List.contains_cons, List.contains_nil, true_and, and_true, ↓ap_assign, pop_assign, rd_ne', ne_eq, not_false_eq_true, lv_map, rd_any, AVal.cells, setAt, List.set_cons_zero, List.set_cons_succ, cellsAt, List.getD_cons_zero, List.getD_cons_succ, Nat.zero_add, Nat.reduceAdd, lv_bool, lv_int, lv_str, lv_nilPtr, lv_ptr, lv_nilSlice, lv_slice, lv_nilFunc, lv_func, lv_nilIface, lv_iface, lv_nilMap, lv_agg, lv_tuple, allLive, Bool.and_true, itemC, grpA, hlv, hlw, nv, nw]
      repeat (with_reducible refine And.intro ?_ ?_; · first | trivial | omega | (intro hg; simp only [Bool.and_eq_true, Bool.or_eq_true, Bool.not_eq_true', Bool.and_eq_false_iff, Bool.or_eq_false_iff, Bool.not_eq_false', decide_eq_true_eq, decide_eq_false_iff_not, eqNil] at hg; omega) )
      apply hK; clear hK K
      refine awp_ret ?_
      try simp only [thenA_ret, inBlockA_ret]
      refine retA_ret h (by repeat (first | exact Sub.refl _ | assumption | refine Sub.trans_set ?_ (by assumption))) (resPre_tmp (resPre_nil)) ?_
      simp (decide := true) only [aOps_nil, vOps_nil, fOps_nil, kOps_nil, ev, absV, absS, putD, Slots.put, Slots.get, Slots.keep, if_true, if_false, List.contains_cons, List.contains_nil, true_and, and_true, resOf_one, rd_ne', ne_eq, not_false_eq_true, lv_map, rd_any, AVal.cells, setAt, List.set_cons_zero, List.set_cons_succ, cellsAt, List.getD_cons_zero, List.getD_cons_succ, Nat.zero_add, Nat.reduceAdd, lv_bool, lv_int, lv_str, lv_nilPtr, lv_ptr, lv_nilSlice, lv_slice, lv_nilFunc, lv_func, lv_nilIface, lv_iface, lv_nilMap, lv_agg, lv_tuple, allLive, Bool.and_true, itemC, grpA, hlv, hlw, nv, nw]
      rw [← hq, List.drop_eq_nil_of_le (by omega), List.drop_eq_nil_of_le (by omega)]
      rfl

/-! ### The climb -/
theorem good_parent {l : List ItemP} (hg : Prs.Good l) {i : Nat} (hi : i < l.length) : -1 ≤ (l.getD i default).parent ∧ (l.getD i default).parent < i := by
  by_cases h0 : i = 0
  · subst h0; rw [hg.root.2]; omega
  · have := hg.item i (by omega) hi
    omega
theorem climb_fuel {l : List ItemP} {g : Int} (hg : Prs.Good l) : ∀ (n m : Nat) (it : Int) (ns : List Str) (gd : Bool), -1 ≤ it → it < l.length → it + 1 < n → it + 1 < m → climb l g n it ns gd = climb l g m it ns gd
  | 0, m, it, ns, gd, h1, _, h2, _ => by omega
  | n + 1, 0, it, ns, gd, h1, _, _, h2 => by omega
  | n + 1, m + 1, it, ns, gd, h1, h3, h2, h4 => by
    rw [climb, climb]
    split
    · rename_i hc
      have := good_parent hg (i := it.toNat) (by omega)
      exact climb_fuel hg n m _ _ _ this.1 (by omega) (by omega) (by omega)
    · rfl
structure ClG where
  it : Int
  ns : List Str
  nv : AVal
  gd : Bool
  H : AHeap
structure ClOk (w₀ : World) (h : AHeap) (l : List ItemP) (g : Int) (R : List Str × Int × Bool) (s : ClG) : Prop where
  sub : Sub h s.H
  row : IsL w₀ (offH h s.H) 1 s.nv (s.ns.map strC)
  it : -1 ≤ s.it ∧ s.it < l.length
  go : climb l g (l.length + 1) s.it s.ns s.gd = R
  few : s.ns.length + (s.it + 1).toNat ≤ l.length
set_option maxHeartbeats 1000000 in
theorem c_pathL (w₀ : World) (h : AHeap) (v : AVal) (g : Int) (i : Nat) (l : List (ItemP × ItemO)) (hv : IsL w₀ h 22 v (l.map itC)) (hg : Prs.Good (items l)) (hi : i < l.length) (hl : l.length ≤ 100000) :
    ACall Tryd.prog w₀ 14 [v, .int .i64 g, .int .i64 i] h
      (fun r h' => ∃ nv, r = .tuple [nv, .bool (belowE (items l) g i), .bool (goodE (items l) g i)] ∧ IsL w₀ (offH h h') 1 nv ((namesE (items l) g i).map strC) ∧ Sub h h') := by
  have hlv := hv.live
  have hin := items_len l
  obtain ⟨R, hR⟩ : ∃ R, R = climb (items l) g ((items l).length + 1) i [] true := ⟨_, rfl⟩
  have hb : belowE (items l) g i = (decide (R.2.1 = g) && !R.1.isEmpty) := by rw [hR]; rfl
  have hgd : goodE (items l) g i = R.2.2 := by rw [hR]; rfl
  have hns : namesE (items l) g i = R.1 := by rw [hR]; rfl
  rw [hb, hgd, hns]
  obtain ⟨lc, o, c, rfl⟩ := it_open hv (by omega)
  refine acall_intro (n := 69) (rs := [.tmp 6, .tmp 7, .tmp 8]) Tryd.func14 rfl rfl rfl rfl (Nat.le_of_ble_eq_true rfl) ?_
  simp only [initSlots]
  -- region 0  law.go:82
  refine awp_rseq [0, 1, 2, 6] (by rfl) fun K hK => ?_
  simp (decide := true) only [aOps_nil, vOps_nil, fOps_nil, kOps_nil, ev, absV, absS, putD, Slots.put, Slots.get, Slots.keep, if_true, if_false, List.contains_cons, List.contains_nil, true_and, and_true, ↓ap_assign, pop_assign, rd_ne', ne_eq, not_false_eq_true, lv_map, rd_any, AVal.cells, setAt, List.set_cons_zero, List.set_cons_succ, cellsAt, List.getD_cons_zero, List.getD_cons_succ, Nat.zero_add, Nat.reduceAdd, lv_bool, lv_int, lv_str, lv_nilPtr, lv_ptr, lv_nilSlice, lv_slice, lv_nilFunc, lv_func, lv_nilIface, lv_iface, lv_nilMap, lv_agg, lv_tuple, allLive, Bool.and_true, itemC, grpA, hlv]
  repeat (with_reducible refine And.intro ?_ ?_; · first | trivial | omega | (intro hg; simp only [Bool.and_eq_true, Bool.or_eq_true, Bool.not_eq_true', Bool.and_eq_false_iff, Bool.or_eq_false_iff, Bool.not_eq_false', decide_eq_true_eq, decide_eq_false_iff_not, eqNil] at hg; omega) )
  apply hK; clear hK K
  -- region 1  law.go:83
  refine awp_rseq [0, 1, 2, 6, 8] (by rfl) fun K hK => ?_
  simp (decide := true) only [aOps_nil, vOps_nil, fOps_nil, kOps_nil, ev, absV, absS, putD, Slots.put, Slots.get, Slots.keep, if_true, if_false, List.contains_cons, List.contains_nil, true_and, and_true, ↓ap_assign, pop_assign, rd_ne', ne_eq, not_false_eq_true, lv_map, rd_any, AVal.cells, setAt, List.set_cons_zero, List.set_cons_succ, cellsAt, List.getD_cons_zero, List.getD_cons_succ, Nat.zero_add, Nat.reduceAdd, lv_bool, lv_int, lv_str, lv_nilPtr, lv_ptr, lv_nilSlice, lv_slice, lv_nilFunc, lv_func, lv_nilIface, lv_iface, lv_nilMap, lv_agg, lv_tuple, allLive, Bool.and_true, itemC, grpA, hlv]
  repeat (with_reducible refine And.intro ?_ ?_; · first | trivial | omega | (intro hg; simp only [Bool.and_eq_true, Bool.or_eq_true, Bool.not_eq_true', Bool.and_eq_false_iff, Bool.or_eq_false_iff, Bool.not_eq_false', decide_eq_true_eq, decide_eq_false_iff_not, eqNil] at hg; omega) )
  apply hK; clear hK K
  refine awp_seq ?_
  refine awp_block ?_
  refine awp_loopG [0, 1, 2, 6, 8] (fun s : ClG => [(0, .slice lc o l.length c), (1, .int .i64 g), (2, .int .i64 s.it), (6, s.nv), (8, .bool s.gd)]) (fun s : ClG => s.H) (fun s : ClG => ClOk w₀ h (items l) g R s) (fun s : ClG => (s.it + 1).toNat) ⟨i, [], .nilSlice, true, h⟩ (by rfl) (Sub.refl _) ⟨Sub.refl _, .nil, ⟨by simp only; omega, by simp only; rw [hin]; omega⟩, hR.symm, by simp only [List.length_nil]; rw [hin]; omega⟩ ?_
  rintro ⟨it, ns, nv, gd, H⟩ ⟨hs_H, hrow, ⟨hi1, hi2⟩, hgo, hfew⟩
  simp only at hs_H hrow hi1 hi2 hgo hfew ⊢
  rw [hin] at hi2 hfew
  have hlnv := hrow.live
  have hnn := path_len hrow
  refine awp_seq ?_
  -- region 2  law.go:84
  refine awp_rseq [0, 1, 2, 6, 8, 16] (by rfl) fun K hK => ?_
  simp (decide := true) only [aOps_nil, vOps_nil, fOps_nil, kOps_nil, ev, absV, absS, putD, Slots.put, Slots.get, Slots.keep, if_true, if_false, List.contains_cons, List.contains_nil, true_and, and_true, ↓ap_move, pop_move, ↓ap_binOp, pop_binOp, isNilC_int, cond_false, pBinX_int, pI_geq, ↓ag_move, agP, agQ_some, gv, nthDst, gKnown_bool, gKnown_cond, guardB_cond, guardB_bool_true, guardB_bool_false, cv_cv, implies_true, Bool.not_not, decide_true, decide_false, Bool.not_false, Bool.not_true, condV_true, condV_false, forall_const, false_implies, pickV_true, pickV_false, Bool.and_true, Bool.and_false, Bool.true_and, Bool.false_and, Bool.or_true, Bool.or_false, Bool.true_or, Bool.false_or, agL_deadT, agL_deadF, agL_deadU, ↓ag_binOp, isNilC_tmp, cv_binl, cv_binr, cp_binl, cp_binr, pI_neq, ↓ap_pick, pop_pick, pPick_bool, pickV_cond_l, pickV_cond_r, pickV_cond_rn, cp_nest1, cp_nest2, cp_nest3, cp_nest4, pickV_and, pickV_or, rd_ne', ne_eq, not_false_eq_true, lv_map, rd_any, AVal.cells, setAt, List.set_cons_zero, List.set_cons_succ, cellsAt, List.getD_cons_zero, List.getD_cons_succ, Nat.zero_add, Nat.reduceAdd, lv_bool, lv_int, lv_str, lv_nilPtr, lv_ptr, lv_nilSlice, lv_slice, lv_nilFunc, lv_func, lv_nilIface, lv_iface, lv_nilMap, lv_agg, lv_tuple, allLive, Bool.and_true, itemC, grpA, hlv, hlnv, hnn]
  repeat (with_reducible refine And.intro ?_ ?_; · first | trivial | omega | (intro hg; simp only [Bool.and_eq_true, Bool.or_eq_true, Bool.not_eq_true', Bool.and_eq_false_iff, Bool.or_eq_false_iff, Bool.not_eq_false', decide_eq_true_eq, decide_eq_false_iff_not, eqNil] at hg; omega) )
  apply hK; clear hK K
  refine awp_cond (b := _) rfl (fun hb1 => ?_) (fun hb1 => ?_)
  · try simp only [decide_eq_true_eq, decide_eq_false_iff_not, Bool.not_eq_true', Bool.not_eq_false', Bool.and_eq_true, Bool.and_eq_false_iff, Bool.or_eq_true, Bool.or_eq_false_iff, Bool.true_eq, Bool.false_eq, reduceCtorEq] at hb1
    obtain ⟨⟨x, q⟩, hx⟩ : ∃ a, l.getD it.toNat default = a := ⟨_, rfl⟩
    have hca := it_at (hv.mono hs_H) (i := it.toNat) (by omega) hx
    have hall := it_live hv (i := it.toNat) (by omega) hx
    have hvl : q.val.live = true := scal_live q.hval
    have hpar := good_parent hg (i := it.toNat) (by rw [hin]; omega)
    rw [climb, if_pos (by omega), items_getD, hx] at hgo
    rw [items_getD, hx] at hpar
    simp only at hgo hpar
    rw [climb_fuel hg _ ((items l).length + 1) _ _ _ hpar.1 (by rw [hin]; omega) (by rw [hin]; omega) (by rw [hin]; omega)] at hgo
    unfold itemC at hca hall
    refine awp_skip ?_
    change Awp _ _ _ _ _ _ _
    refine awp_block ?_
    -- region 3  law.go:85
    refine awp_rseq [0, 1, 6, 8, 9] (by rfl) fun K hK => ?_
    simp (decide := true) only [aOps_nil, vOps_nil, fOps_nil, kOps_nil, ev, absV, absS, putD, Slots.put, Slots.get, Slots.keep, if_true, if_false, List.contains_cons, List.contains_nil, true_and, and_true, ↓ap_move, pop_move, ↓ap_indexAddrL, apL_mk, pIndexAddr_slice Tryd.underlying25 sz44, ↓ap_loadL, pLoad_agg ag44 sz44, rd_ne', ne_eq, not_false_eq_true, lv_map, rd_any, AVal.cells, setAt, List.set_cons_zero, List.set_cons_succ, cellsAt, List.getD_cons_zero, List.getD_cons_succ, Nat.zero_add, Nat.reduceAdd, lv_bool, lv_int, lv_str, lv_nilPtr, lv_ptr, lv_nilSlice, lv_slice, lv_nilFunc, lv_func, lv_nilIface, lv_iface, lv_nilMap, lv_agg, lv_tuple, allLive, Bool.and_true, itemC, grpA, hlv, hlnv, hnn, ↓hca, hall]
    repeat (with_reducible refine And.intro ?_ ?_; · first | trivial | omega | (intro hg; simp only [Bool.and_eq_true, Bool.or_eq_true, Bool.not_eq_true', Bool.and_eq_false_iff, Bool.or_eq_false_iff, Bool.not_eq_false', decide_eq_true_eq, decide_eq_false_iff_not, eqNil] at hg; omega) )
    refine aOps_alloc ze44 (cs := [.str [], .int .i64 0, .int .i64 0, .int .u8 0, .int .u8 0, .str [], .int .i64 0, .int .i64 0, .bool false, .bool false, .bool false, .bool false, .bool false, .int .i64 0, .int .i64 0, .int .i64 0, .int .i64 0, .int .i64 0, .int .i64 0, .int .i64 0, .int .i64 0, .nilSlice]) (by rfl) fun k3q4 hk3q4 => ?_
    have hn_3q4 : H k3q4 = none := by first | assumption | (simp only [AHeap.set_none] at hk3q4; simp only [hk3q4])
    have hf_3q4 : h k3q4 = none := Sub.none hs_H hn_3q4
    refine aOps_store (by rfl) (by rfl) (by repeat (first | exact AHeap.set_same _ _ _ | assumption | refine (AHeap.set_ne _ _ (by first | assumption | exact Ne.symm (by assumption))).trans ?_)) sz44 (by rfl) (by rfl) (by first | exact Nat.le_refl _ | decide | (simp; done) | (simp; omega)) (Nat.zero_le _) (by first | rfl | (simp (decide := true) only [ev, putD, Slots.put, Slots.get, if_true, if_false, AVal.cells, allScal, Bool.and_true, Bool.true_and, sc_bool, sc_int, sc_str, q.hval])) ?_
    simp only [AHeap.set_set, setAt, AVal.cells, List.set_cons_zero, List.set_cons_succ, Nat.zero_add, Nat.reduceAdd]
    simp (decide := true) only [aOps_nil, vOps_nil, fOps_nil, kOps_nil, ev, absV, absS, putD, Slots.put, Slots.get, Slots.keep, if_true, if_false, List.contains_cons, List.contains_nil, true_and, and_true, rd_ne', ne_eq, not_false_eq_true, lv_map, rd_any, AVal.cells, setAt, List.set_cons_zero, List.set_cons_succ, cellsAt, List.getD_cons_zero, List.getD_cons_succ, Nat.zero_add, Nat.reduceAdd, lv_bool, lv_int, lv_str, lv_nilPtr, lv_ptr, lv_nilSlice, lv_slice, lv_nilFunc, lv_func, lv_nilIface, lv_iface, lv_nilMap, lv_agg, lv_tuple, allLive, Bool.and_true, itemC, grpA, hlv, hlnv, hnn, ↓hca, hall]
    repeat (with_reducible refine And.intro ?_ ?_; · first | trivial | omega | (intro hg; simp only [Bool.and_eq_true, Bool.or_eq_true, Bool.not_eq_true', Bool.and_eq_false_iff, Bool.or_eq_false_iff, Bool.not_eq_false', decide_eq_true_eq, decide_eq_false_iff_not, eqNil] at hg; omega) )
    apply hK; clear hK K
    -- region 4  law.go:86
    refine awp_rseq [0, 1, 6, 8, 9] (by rfl) fun K hK => ?_
    simp (decide := true) only [aOps_nil, vOps_nil, fOps_nil, kOps_nil, ev, absV, absS, putD, Slots.put, Slots.get, Slots.keep, if_true, if_false, List.contains_cons, List.contains_nil, true_and, and_true, ↓ap_fieldAddr, pop_fieldAddr, fa44_0, ↓ap_loadL, apL_mk, pLoad_one ag9, rd_ne', ne_eq, not_false_eq_true, lv_map, rd_any, AVal.cells, setAt, List.set_cons_zero, List.set_cons_succ, cellsAt, List.getD_cons_zero, List.getD_cons_succ, Nat.zero_add, Nat.reduceAdd, lv_bool, lv_int, lv_str, lv_nilPtr, lv_ptr, lv_nilSlice, lv_slice, lv_nilFunc, lv_func, lv_nilIface, lv_iface, lv_nilMap, lv_agg, lv_tuple, allLive, Bool.and_true, itemC, grpA, hlv, hlnv, hnn, hvl]
    repeat (with_reducible refine And.intro ?_ ?_; · first | trivial | omega | (intro hg; simp only [Bool.and_eq_true, Bool.or_eq_true, Bool.not_eq_true', Bool.and_eq_false_iff, Bool.or_eq_false_iff, Bool.not_eq_false', decide_eq_true_eq, decide_eq_false_iff_not, eqNil] at hg; omega) )
    refine aOps_buildSlice (cs := [.str x.name]) (by kernel_rfl) fun k4q2 hk4q2 => ?_
    have ne_4q2_3q4 : k4q2 ≠ k3q4 := by simp only [AHeap.set_none] at hk4q2; simp only [hk4q2, ne_eq, not_false_eq_true]
    have hn_4q2 : H k4q2 = none := by first | assumption | (simp only [AHeap.set_none] at hk4q2; simp only [hk4q2])
    have hf_4q2 : h k4q2 = none := Sub.none hs_H hn_4q2
    simp (decide := true) only [aOps_nil, vOps_nil, fOps_nil, kOps_nil, ev, absV, absS, putD, Slots.put, Slots.get, Slots.keep, if_true, if_false, List.contains_cons, List.contains_nil, true_and, and_true, ↓ap_move, pop_move, rd_ne', ne_eq, not_false_eq_true, ne_4q2_3q4, ne_4q2_3q4.symm, lv_map, rd_any, AVal.cells, setAt, List.set_cons_zero, List.set_cons_succ, cellsAt, List.getD_cons_zero, List.getD_cons_succ, Nat.zero_add, Nat.reduceAdd, lv_bool, lv_int, lv_str, lv_nilPtr, lv_ptr, lv_nilSlice, lv_slice, lv_nilFunc, lv_func, lv_nilIface, lv_iface, lv_nilMap, lv_agg, lv_tuple, allLive, Bool.and_true, itemC, grpA, hlv, hlnv, hnn, hvl]
    repeat (with_reducible refine And.intro ?_ ?_; · first | trivial | omega | (intro hg; simp only [Bool.and_eq_true, Bool.or_eq_true, Bool.not_eq_true', Bool.and_eq_false_iff, Bool.or_eq_false_iff, Bool.not_eq_false', decide_eq_true_eq, decide_eq_false_iff_not, eqNil] at hg; omega) )
    refine aOps_appendOff (h := h) (by repeat (first | exact Sub.refl _ | assumption | refine Sub.set_both ?_ _ _ | refine Sub.trans_set ?_ (by repeat (first | assumption | refine (AHeap.set_ne _ _ (by first | assumption | exact Ne.symm (by assumption))).trans ?_)))) (es := 1) (v := .slice (.own k4q2) 0 1 (.exact 1)) (xs := [strC x.name]) (ys := ns.map strC) (by rfl) (by rfl) Tryd.underlying48 Tryd.underlying48 (fun k e => by cases e) sz9 by9 ze9 (by rfl) (by decide) (by rfl) (IsL.own (xs := [strC x.name]) (b := ⟨[.str x.name], 0⟩) (by rw [offH_new hf_4q2]; exact (by repeat (first | exact AHeap.set_same _ _ _ | assumption | refine (AHeap.set_ne _ _ (by first | assumption | exact Ne.symm (by assumption))).trans ?_))) (by simp [strC]) (by rfl) (by rfl) (.exact 1) (Nat.le_refl _)) (by rfl) ((hrow.mono (offH_sub _ _)).mono (by repeat (first | exact Sub.refl _ | assumption | refine Sub.set_both ?_ _ _ | refine Sub.trans_set ?_ (by repeat (first | assumption | refine (AHeap.set_ne _ _ (by first | assumption | exact Ne.symm (by assumption))).trans ?_))))) (by simp; omega) (by simp; omega) fun nv2 h4q4 hL4 hs4 => ?_
    have hlnv2 := hL4.live
    have hs_h4q4 : Sub h h4q4 := Sub.trans (by repeat (first | exact Sub.refl _ | assumption | refine Sub.trans_set ?_ (by assumption))) hs4
    have hr_h4q4 : Sub H h4q4 := Sub.trans (by repeat (first | exact Sub.refl _ | assumption | refine Sub.trans_set ?_ (by assumption))) hs4
    have eb_3q4 := hs4 k3q4 _ (by repeat (first | exact AHeap.set_same _ _ _ | assumption | refine (AHeap.set_ne _ _ (by first | assumption | exact Ne.symm (by assumption))).trans ?_))
    have eb_4q2 := hs4 k4q2 _ (by repeat (first | exact AHeap.set_same _ _ _ | assumption | refine (AHeap.set_ne _ _ (by first | assumption | exact Ne.symm (by assumption))).trans ?_))
    simp (decide := true) only [aOps_nil, vOps_nil, fOps_nil, kOps_nil, ev, absV, absS, putD, Slots.put, Slots.get, Slots.keep, if_true, if_false, List.contains_cons, List.contains_nil, true_and, and_true, ↓ap_assign, pop_assign, rd_ne', ne_eq, not_false_eq_true, rd_own w₀ eb_3q4, rd_own w₀ eb_4q2, ne_4q2_3q4, ne_4q2_3q4.symm, lv_map, rd_any, AVal.cells, setAt, List.set_cons_zero, List.set_cons_succ, cellsAt, List.getD_cons_zero, List.getD_cons_succ, Nat.zero_add, Nat.reduceAdd, lv_bool, lv_int, lv_str, lv_nilPtr, lv_ptr, lv_nilSlice, lv_slice, lv_nilFunc, lv_func, lv_nilIface, lv_iface, lv_nilMap, lv_agg, lv_tuple, allLive, Bool.and_true, itemC, grpA, hlv, hlnv, hnn, hvl, hlnv2]
    repeat (with_reducible refine And.intro ?_ ?_; · first | trivial | omega | (intro hg; simp only [Bool.and_eq_true, Bool.or_eq_true, Bool.not_eq_true', Bool.and_eq_false_iff, Bool.or_eq_false_iff, Bool.not_eq_false', decide_eq_true_eq, decide_eq_false_iff_not, eqNil] at hg; omega) )
    apply hK; clear hK K
    -- region 5  law.go:87
    refine awp_rseq [0, 1, 6, 8, 9] (by kernel_rfl) fun K hK => ?_
    simp (decide := true) only [aOps_nil, vOps_nil, fOps_nil, kOps_nil, ev, absV, absS, putD, Slots.put, Slots.get, Slots.keep, if_true, if_false, List.contains_cons, List.contains_nil, true_and, and_true, ↓ap_move, pop_move, ↓ag_fieldAddr, pop_fieldAddr, agP, agQ_some, gv, nthDst, gKnown_bool, gKnown_cond, guardB_cond, guardB_bool_true, guardB_bool_false, cv_cv, implies_true, Bool.not_not, decide_true, decide_false, Bool.not_false, Bool.not_true, condV_true, condV_false, forall_const, false_implies, pickV_true, pickV_false, Bool.and_true, Bool.and_false, Bool.true_and, Bool.false_and, Bool.or_true, Bool.or_false, Bool.true_or, Bool.false_or, fa44_1, cv_fieldAddr, cp_fieldAddr, agL_deadT, agL_deadF, agL_deadU, ↓ag_loadL, apL_mk, agQL_some, agL_mk, agL_ld1, agL_ld2, agL_ld3, agL_ld4, agL_ld5, agL_ld6, pLoad_one ag3, cv_load, cp_load, ↓ag_binOp, pop_binOp, isNilC_int, cond_false, cv_binl, cv_binr, cp_binl, cp_binr, pBinX_int, pI_gtr, ↓ap_pick, pop_pick, pPick_bool, pickV_cond_l, pickV_cond_r, pickV_cond_rn, cp_nest1, cp_nest2, cp_nest3, cp_nest4, pickV_and, pickV_or, pI_lss, fa44_0, pLoad_one ag9, isNilC_str, pBinX_str, pS_neq, fa44_8, fa44_7, fa44_5, ↓ap_assign, pop_assign, rd_ne', ne_eq, not_false_eq_true, rd_own w₀ eb_3q4, rd_own w₀ eb_4q2, ne_4q2_3q4, ne_4q2_3q4.symm, lv_map, rd_any, AVal.cells, setAt, List.set_cons_zero, List.set_cons_succ, cellsAt, List.getD_cons_zero, List.getD_cons_succ, Nat.zero_add, Nat.reduceAdd, lv_bool, lv_int, lv_str, lv_nilPtr, lv_ptr, lv_nilSlice, lv_slice, lv_nilFunc, lv_func, lv_nilIface, lv_iface, lv_nilMap, lv_agg, lv_tuple, allLive, Bool.and_true, itemC, grpA, hlv, hlnv2, hvl]
    repeat (with_reducible refine And.intro ?_ ?_; · first | trivial | omega | (intro hg; simp only [Bool.and_eq_true, Bool.or_eq_true, Bool.not_eq_true', Bool.and_eq_false_iff, Bool.or_eq_false_iff, Bool.not_eq_false', decide_eq_true_eq, decide_eq_false_iff_not, eqNil] at hg; omega) )
    apply hK; clear hK K
    -- region 6  law.go:88
    refine awp_r [0, 1, 2, 6, 8] (by rfl) ?_
    simp (decide := true) only [aOps_nil, vOps_nil, fOps_nil, kOps_nil, ev, absV, absS, putD, Slots.put, Slots.get, Slots.keep, if_true, if_false, List.contains_cons, List.contains_nil, true_and, and_true, ↓ap_fieldAddr, pop_fieldAddr, fa44_2, ↓ap_loadL, apL_mk, pLoad_one ag3, ↓ap_assign, pop_assign, rd_ne', ne_eq, not_false_eq_true, rd_own w₀ eb_3q4, rd_own w₀ eb_4q2, ne_4q2_3q4, ne_4q2_3q4.symm, lv_map, rd_any, AVal.cells, setAt, List.set_cons_zero, List.set_cons_succ, cellsAt, List.getD_cons_zero, List.getD_cons_succ, Nat.zero_add, Nat.reduceAdd, lv_bool, lv_int, lv_str, lv_nilPtr, lv_ptr, lv_nilSlice, lv_slice, lv_nilFunc, lv_func, lv_nilIface, lv_iface, lv_nilMap, lv_agg, lv_tuple, allLive, Bool.and_true, itemC, grpA, hlv, hlnv2, hvl]
    repeat (with_reducible refine And.intro ?_ ?_; · first | trivial | omega | (intro hg; simp only [Bool.and_eq_true, Bool.or_eq_true, Bool.not_eq_true', Bool.and_eq_false_iff, Bool.or_eq_false_iff, Bool.not_eq_false', decide_eq_true_eq, decide_eq_false_iff_not, eqNil] at hg; omega) )
    try simp only [thenA_normal, inBlockA_normal]
    refine ⟨⟨x.parent, x.name :: ns, nv2, gd && eligE x, h4q4⟩, ?_, Sub.refl _, ⟨hs_h4q4, hL4, ⟨hpar.1, by simp only; rw [hin]; omega⟩, hgo, by simp only [List.length_cons]; rw [hin]; omega⟩, by simp only; omega⟩
    have hel : (gd && decide (1 < x.level) && decide (x.level < 50) && !decide (x.name = [70, 73, 76, 76, 69, 82]) && decide (x.redefines < 0) && decide (x.depends < 0) && decide (x.occurs < 2)) = (gd && eligE x) := by
      unfold eligE
      have e1 : (x.name == filler) = decide (x.name = [70, 73, 76, 76, 69, 82]) := by unfold filler; by_cases e : x.name = [70, 73, 76, 76, 69, 82] <;> simp [e]
      rw [e1, show decide (1 < x.level) = decide (2 ≤ x.level) from decide_eq_decide.2 (by omega), show decide (x.level < 50) = decide (x.level ≤ 49) from decide_eq_decide.2 (by omega), show decide (x.occurs < 2) = decide (x.occurs ≤ 1) from decide_eq_decide.2 (by omega)]
      simp only [Bool.and_assoc]
    rw [hel]
    rfl
  · try simp only [decide_eq_true_eq, decide_eq_false_iff_not, Bool.not_eq_true', Bool.not_eq_false', Bool.and_eq_true, Bool.and_eq_false_iff, Bool.or_eq_true, Bool.or_eq_false_iff, Bool.true_eq, Bool.false_eq, reduceCtorEq] at hb1
    rw [climb, if_neg (by omega)] at hgo
    refine awp_exit ?_
    change Awp _ _ _ _ _ _ _
    -- region 7  law.go:90
    refine awp_rseq [6, 7, 8] (by rfl) fun K hK => ?_
    simp (decide := true) only [aOps_nil, vOps_nil, fOps_nil, kOps_nil, ev, absV, absS, putD, Slots.put, Slots.get, Slots.keep, if_true, if_false, List.contains_cons, List.contains_nil, true_and, and_true, ↓ap_move, pop_move, ↓ap_binOp, pop_binOp, isNilC_tmp, cond_false, pBinX_int, pI_eql, ↓ag_move, agP, agQ_some, gv, nthDst, gKnown_bool, gKnown_cond, guardB_cond, guardB_bool_true, guardB_bool_false, cv_cv, implies_true, Bool.not_not, decide_true, decide_false, Bool.not_false, Bool.not_true, condV_true, condV_false, forall_const, false_implies, pickV_true, pickV_false, Bool.and_true, Bool.and_false, Bool.true_and, Bool.false_and, Bool.or_true, Bool.or_false, Bool.true_or, Bool.false_or, agL_deadT, agL_deadF, agL_deadU, ↓ag_len, pop_len, pLen_slice Tryd.underlying48, pLen_nil Tryd.underlying48, cv_len, cp_len, ↓ag_binOp, isNilC_int, cv_binl, cv_binr, cp_binl, cp_binr, pI_gtr, ↓ap_pick, pop_pick, pPick_bool, pickV_cond_l, pickV_cond_r, pickV_cond_rn, cp_nest1, cp_nest2, cp_nest3, cp_nest4, pickV_and, pickV_or, ↓ap_assign, pop_assign, rd_ne', ne_eq, not_false_eq_true, lv_map, rd_any, AVal.cells, setAt, List.set_cons_zero, List.set_cons_succ, cellsAt, List.getD_cons_zero, List.getD_cons_succ, Nat.zero_add, Nat.reduceAdd, lv_bool, lv_int, lv_str, lv_nilPtr, lv_ptr, lv_nilSlice, lv_slice, lv_nilFunc, lv_func, lv_nilIface, lv_iface, lv_nilMap, lv_agg, lv_tuple, allLive, Bool.and_true, itemC, grpA, hlv, hlnv, hnn]
    repeat (with_reducible refine And.intro ?_ ?_; · first | trivial | omega | (intro hg; simp only [Bool.and_eq_true, Bool.or_eq_true, Bool.not_eq_true', Bool.and_eq_false_iff, Bool.or_eq_false_iff, Bool.not_eq_false', decide_eq_true_eq, decide_eq_false_iff_not, eqNil] at hg; omega) )
    apply hK; clear hK K
    refine awp_ret ?_
    try simp only [thenA_ret, inBlockA_ret]
    refine retA_retE (resPre_tmp (resPre_tmp (resPre_tmp (resPre_nil)))) ?_
    simp (decide := true) only [aOps_nil, vOps_nil, fOps_nil, kOps_nil, ev, absV, absS, putD, Slots.put, Slots.get, Slots.keep, if_true, if_false, List.contains_cons, List.contains_nil, true_and, and_true, resOf_three, rd_ne', ne_eq, not_false_eq_true, lv_map, rd_any, AVal.cells, setAt, List.set_cons_zero, List.set_cons_succ, cellsAt, List.getD_cons_zero, List.getD_cons_succ, Nat.zero_add, Nat.reduceAdd, lv_bool, lv_int, lv_str, lv_nilPtr, lv_ptr, lv_nilSlice, lv_slice, lv_nilFunc, lv_func, lv_nilIface, lv_iface, lv_nilMap, lv_agg, lv_tuple, allLive, Bool.and_true, itemC, grpA, hlv, hlnv, hnn]
    refine ⟨H, Sub.refl _, nv, ?_, by rw [← hgo]; exact hrow, hs_H⟩
    rw [← hgo]
    cases ns with
    | nil => simp
    | cons a r => simp
/-! ### The group that a law picks -/
theorem downE_step {l : List ItemP} {i : Nat} (h : (l.getD (i + 1) default).cat ≠ 0 ∨ 49 < (l.getD (i + 1) default).level) : downE l (i + 1) = downE l i := by rw [downE, if_pos h]
theorem downE_stop {l : List ItemP} {i : Nat} (h : ¬ ((l.getD i default).cat ≠ 0 ∨ 49 < (l.getD i default).level)) : downE l i = i := by
  cases i with
  | zero => rfl
  | succ i => rw [downE, if_neg h]
theorem c_group (w₀ : World) (h : AHeap) (v : AVal) (n : Nat) (l : List (ItemP × ItemO)) (hv : IsL w₀ h 22 v (l.map itC)) (hn : n < 256) (hl0 : 0 < l.length) (h0 : ((items l).getD 0 default).cat = 0 ∧ ((items l).getD 0 default).level ≤ 49) (hl : l.length ≤ 100000) :
    ACall Tryd.prog w₀ 9 [v, .int .u8 n] h (fun r h' => r = .int .i64 (groupE (items l) n) ∧ h' = h) := by
  have hlv := hv.live
  have nv := it_len hv
  have hin := items_len l
  obtain ⟨lc, o, c, rfl⟩ := it_open hv hl0
  have hmod : ((n : Int).tmod (l.length : Int)) = ((n % l.length : Nat) : Int) := by
    rw [Int.tmod_eq_emod_of_nonneg (by omega)]
    exact (Int.natCast_emod n l.length).symm
  refine acall_intro (n := 29) (rs := [.tmp 4]) Tryd.func9 rfl rfl rfl rfl (Nat.le_of_ble_eq_true rfl) ?_
  simp only [initSlots]
  -- region 0  law.go:122
  refine awp_rseq [0, 1] (by rfl) fun K hK => ?_
  simp (decide := true) only [aOps_nil, vOps_nil, fOps_nil, kOps_nil, ev, absV, absS, putD, Slots.put, Slots.get, Slots.keep, if_true, if_false, List.contains_cons, List.contains_nil, true_and, and_true, ↓ap_assign, pop_assign, rd_ne', ne_eq, not_false_eq_true, lv_map, rd_any, AVal.cells, setAt, List.set_cons_zero, List.set_cons_succ, cellsAt, List.getD_cons_zero, List.getD_cons_succ, Nat.zero_add, Nat.reduceAdd, lv_bool, lv_int, lv_str, lv_nilPtr, lv_ptr, lv_nilSlice, lv_slice, lv_nilFunc, lv_func, lv_nilIface, lv_iface, lv_nilMap, lv_agg, lv_tuple, allLive, Bool.and_true, itemC, grpA, hlv, nv]
  repeat (with_reducible refine And.intro ?_ ?_; · first | trivial | omega | (intro hg; simp only [Bool.and_eq_true, Bool.or_eq_true, Bool.not_eq_true', Bool.and_eq_false_iff, Bool.or_eq_false_iff, Bool.not_eq_false', decide_eq_true_eq, decide_eq_false_iff_not, eqNil] at hg; omega) )
  apply hK; clear hK K
  -- region 1  law.go:123
  refine awp_rseq [0, 5] (by rfl) fun K hK => ?_
  simp (decide := true) only [aOps_nil, vOps_nil, fOps_nil, kOps_nil, ev, absV, absS, putD, Slots.put, Slots.get, Slots.keep, if_true, if_false, List.contains_cons, List.contains_nil, true_and, and_true, ↓ap_move, pop_move, ↓ap_convert _ _ _ (es_int Tryd.underlying5 Tryd.underlying3), pop_convert, pConv_int Tryd.underlying5 Tryd.underlying3, ↓ap_len, pop_len, pLen_slice Tryd.underlying25, pLen_nil Tryd.underlying25, ↓ap_binOp, pop_binOp, isNilC_tmp, cond_false, pBinX_int, pI_rem, ↓ap_assign, pop_assign, rd_ne', ne_eq, not_false_eq_true, lv_map, rd_any, AVal.cells, setAt, List.set_cons_zero, List.set_cons_succ, cellsAt, List.getD_cons_zero, List.getD_cons_succ, Nat.zero_add, Nat.reduceAdd, lv_bool, lv_int, lv_str, lv_nilPtr, lv_ptr, lv_nilSlice, lv_slice, lv_nilFunc, lv_func, lv_nilIface, lv_iface, lv_nilMap, lv_agg, lv_tuple, allLive, Bool.and_true, itemC, grpA, hlv, nv, hmod]
  try simp (disch := omega) only [wrap_i64, wrap_u8]
  repeat (with_reducible refine And.intro ?_ ?_; · first | trivial | omega | (intro hg; simp only [Bool.and_eq_true, Bool.or_eq_true, Bool.not_eq_true', Bool.and_eq_false_iff, Bool.or_eq_false_iff, Bool.not_eq_false', decide_eq_true_eq, decide_eq_false_iff_not, eqNil] at hg; omega) )
  apply hK; clear hK K
  refine awp_seq ?_
  refine awp_block ?_
  refine awp_loopG [0, 5] (fun i : Nat => [(0, .slice lc o l.length c), (5, .int .i64 i)]) (fun i : Nat => h) (fun i : Nat => i < l.length ∧ downE (items l) i = groupE (items l) n) (fun i : Nat => i) (n % l.length) (by rfl) (Sub.refl _) ⟨Nat.mod_lt _ hl0, by unfold groupE; rw [hin]⟩ ?_
  rintro i ⟨hi, hq⟩
  have e1 := it_rd hv hi (j := 1) (by decide)
  have e3 := it_rd hv hi (j := 3) (by decide)
  obtain ⟨⟨x, q⟩, hx⟩ : ∃ a, l.getD i default = a := ⟨_, rfl⟩
  rw [hx] at e1 e3
  have e1' : rd w₀ h lc (o + i * 22 + 1) = .int .i64 x.level := e1
  have e3' : rd w₀ h lc (o + i * 22 + 3) = .int .u8 x.cat := e3
  have hxi : (items l).getD i default = x := by rw [items_getD, hx]
  refine awp_seq ?_
  -- region 2  law.go:124
  refine awp_rseq [0, 5, 25] (by rfl) fun K hK => ?_
  simp (decide := true) only [aOps_nil, vOps_nil, fOps_nil, kOps_nil, ev, absV, absS, putD, Slots.put, Slots.get, Slots.keep, if_true, if_false, List.contains_cons, List.contains_nil, true_and, and_true, ↓ap_move, pop_move, ↓ap_indexAddrL, apL_mk, pIndexAddr_slice Tryd.underlying25 sz44, ↓ap_fieldAddr, pop_fieldAddr, fa44_3, fa41_0, ↓ap_loadL, pLoad_one ag38, ↓ap_binOp, pop_binOp, isNilC_int, cond_false, pBinX_int, pI_neq, ↓ag_move, agP, agQ_some, gv, nthDst, gKnown_bool, gKnown_cond, guardB_cond, guardB_bool_true, guardB_bool_false, cv_cv, implies_true, Bool.not_not, decide_true, decide_false, Bool.not_false, Bool.not_true, condV_true, condV_false, forall_const, false_implies, pickV_true, pickV_false, Bool.and_true, Bool.and_false, Bool.true_and, Bool.false_and, Bool.or_true, Bool.or_false, Bool.true_or, Bool.false_or, agL_deadT, agL_deadF, agL_deadU, ↓ag_indexAddrL, agQL_some, agL_mk, agL_il1, agL_il2, agL_il3, agL_il4, agL_il5, agL_il6, agL_ir5, agL_ir6, agL_ir1, agL_ir2, agL_ir3, agL_ir4, cv_iaddrl, cv_iaddrr, cp_iaddrl, cp_iaddrr, ↓ag_fieldAddr, fa44_1, cv_fieldAddr, cp_fieldAddr, ↓ag_loadL, agL_ld1, agL_ld2, agL_ld3, agL_ld4, agL_ld5, agL_ld6, pLoad_one ag3, cv_load, cp_load, ↓ag_binOp, cv_binl, cv_binr, cp_binl, cp_binr, pI_gtr, ↓ap_pick, pop_pick, pPick_bool, pickV_cond_l, pickV_cond_r, pickV_cond_rn, cp_nest1, cp_nest2, cp_nest3, cp_nest4, pickV_and, pickV_or, rd_ne', ne_eq, not_false_eq_true, lv_map, rd_any, AVal.cells, setAt, List.set_cons_zero, List.set_cons_succ, cellsAt, List.getD_cons_zero, List.getD_cons_succ, Nat.zero_add, Nat.reduceAdd, lv_bool, lv_int, lv_str, lv_nilPtr, lv_ptr, lv_nilSlice, lv_slice, lv_nilFunc, lv_func, lv_nilIface, lv_iface, lv_nilMap, lv_agg, lv_tuple, allLive, Bool.and_true, itemC, grpA, hlv, nv, e1', e3', Int.toNat_natCast]
  repeat (with_reducible refine And.intro ?_ ?_; · first | trivial | omega | (intro hg; simp only [Bool.and_eq_true, Bool.or_eq_true, Bool.not_eq_true', Bool.and_eq_false_iff, Bool.or_eq_false_iff, Bool.not_eq_false', decide_eq_true_eq, decide_eq_false_iff_not, eqNil] at hg; omega) )
  apply hK; clear hK K
  refine awp_cond (b := _) rfl (fun hb1 => ?_) (fun hb1 => ?_)
  · try simp only [decide_eq_true_eq, decide_eq_false_iff_not, Bool.not_eq_true', Bool.not_eq_false', Bool.and_eq_true, Bool.and_eq_false_iff, Bool.or_eq_true, Bool.or_eq_false_iff, Bool.true_eq, Bool.false_eq, reduceCtorEq] at hb1
    have hi0 : i ≠ 0 := fun e => by
      subst e
      rw [hxi] at h0
      omega
    refine awp_skip ?_
    change Awp _ _ _ _ _ _ _
    refine awp_block ?_
    -- region 3  law.go:125
    refine awp_r [0, 5] (by rfl) ?_
    simp (decide := true) only [aOps_nil, vOps_nil, fOps_nil, kOps_nil, ev, absV, absS, putD, Slots.put, Slots.get, Slots.keep, if_true, if_false, List.contains_cons, List.contains_nil, true_and, and_true, ↓ap_move, pop_move, ↓ap_binOp, pop_binOp, isNilC_int, cond_false, pBinX_int, pI_sub, ↓ap_assign, pop_assign, rd_ne', ne_eq, not_false_eq_true, lv_map, rd_any, AVal.cells, setAt, List.set_cons_zero, List.set_cons_succ, cellsAt, List.getD_cons_zero, List.getD_cons_succ, Nat.zero_add, Nat.reduceAdd, lv_bool, lv_int, lv_str, lv_nilPtr, lv_ptr, lv_nilSlice, lv_slice, lv_nilFunc, lv_func, lv_nilIface, lv_iface, lv_nilMap, lv_agg, lv_tuple, allLive, Bool.and_true, itemC, grpA, hlv, nv]
    try simp (disch := omega) only [wrap_i64, wrap_u8]
    repeat (with_reducible refine And.intro ?_ ?_; · first | trivial | omega | (intro hg; simp only [Bool.and_eq_true, Bool.or_eq_true, Bool.not_eq_true', Bool.and_eq_false_iff, Bool.or_eq_false_iff, Bool.not_eq_false', decide_eq_true_eq, decide_eq_false_iff_not, eqNil] at hg; omega) )
    try simp only [thenA_normal, inBlockA_normal]
    refine ⟨i - 1, ?_, Sub.refl _, ⟨by omega, ?_⟩, by omega⟩
    · show _ = [_, (5, AVal.int .i64 ((i - 1 : Nat) : Int))]
      rw [show ((i - 1 : Nat) : Int) = (i : Int) - 1 by omega]
      rfl
    · obtain ⟨j, rfl⟩ : ∃ j, i = j + 1 := ⟨i - 1, by omega⟩
      rw [← hq, downE_step (by rw [hxi]; omega)]
      rfl
  · try simp only [decide_eq_true_eq, decide_eq_false_iff_not, Bool.not_eq_true', Bool.not_eq_false', Bool.and_eq_true, Bool.and_eq_false_iff, Bool.or_eq_true, Bool.or_eq_false_iff, Bool.true_eq, Bool.false_eq, reduceCtorEq] at hb1
    refine awp_exit ?_
    change Awp _ _ _ _ _ _ _
    -- region 4  law.go:127
    refine awp_rseq [4] (by rfl) fun K hK => ?_
    simp (decide := true) only [aOps_nil, vOps_nil, fOps_nil, kOps_nil, ev, absV, absS, putD, Slots.put, Slots.get, Slots.keep, if_true, if_false, List.contains_cons, List.contains_nil, true_and, and_true, ↓ap_move, pop_move, ↓ap_assign, pop_assign, rd_ne', ne_eq, not_false_eq_true, lv_map, rd_any, AVal.cells, setAt, List.set_cons_zero, List.set_cons_succ, cellsAt, List.getD_cons_zero, List.getD_cons_succ, Nat.zero_add, Nat.reduceAdd, lv_bool, lv_int, lv_str, lv_nilPtr, lv_ptr, lv_nilSlice, lv_slice, lv_nilFunc, lv_func, lv_nilIface, lv_iface, lv_nilMap, lv_agg, lv_tuple, allLive, Bool.and_true, itemC, grpA, hlv, nv]
    repeat (with_reducible refine And.intro ?_ ?_; · first | trivial | omega | (intro hg; simp only [Bool.and_eq_true, Bool.or_eq_true, Bool.not_eq_true', Bool.and_eq_false_iff, Bool.or_eq_false_iff, Bool.not_eq_false', decide_eq_true_eq, decide_eq_false_iff_not, eqNil] at hg; omega) )
    apply hK; clear hK K
    refine awp_ret ?_
    try simp only [thenA_ret, inBlockA_ret]
    refine retA_ret h (by repeat (first | exact Sub.refl _ | assumption | refine Sub.trans_set ?_ (by assumption))) (resPre_tmp (resPre_nil)) ?_
    simp (decide := true) only [aOps_nil, vOps_nil, fOps_nil, kOps_nil, ev, absV, absS, putD, Slots.put, Slots.get, Slots.keep, if_true, if_false, List.contains_cons, List.contains_nil, true_and, and_true, resOf_one, rd_ne', ne_eq, not_false_eq_true, lv_map, rd_any, AVal.cells, setAt, List.set_cons_zero, List.set_cons_succ, cellsAt, List.getD_cons_zero, List.getD_cons_succ, Nat.zero_add, Nat.reduceAdd, lv_bool, lv_int, lv_str, lv_nilPtr, lv_ptr, lv_nilSlice, lv_slice, lv_nilFunc, lv_func, lv_nilIface, lv_iface, lv_nilMap, lv_agg, lv_tuple, allLive, Bool.and_true, itemC, grpA, hlv, nv]
    rw [← hq, downE_stop (by rw [hxi]; omega)]
end Go.Proofs.YtgnebodlkfblcaaDoor

/-
  Contracts: the laws' own function pairing.
  Conditions: none.
-/
namespace Go.AM
/-- A growing slice of the function's own, h being what was told ahead of it. -/
structure OwnBuf (h H : AHeap) (es : Nat) (b : Option Buf) : Prop where
  at_ : ∀ x, b = some x → H x.blk = some ⟨x.cells, 0⟩ ∧ h x.blk = none
  shape : ∀ x, b = some x → x.cells.length % es = 0 ∧ allLive x.cells = true
  sub : Sub h H
def withoutB (H : AHeap) (b : Option Buf) : AHeap := match b with | none => H | some b => H.del b.blk
theorem OwnBuf.none {h H : AHeap} {es : Nat} (hs : Sub h H) : OwnBuf h H es Option.none := ⟨fun x e => by (cases e), fun x e => by (cases e), hs⟩
theorem OwnBuf.mono {h H H' : AHeap} {es : Nat} {b : Option Buf} (o : OwnBuf h H es b) (hs : Sub H H') : OwnBuf h H' es b :=
  ⟨fun x e => ⟨hs _ _ (o.at_ x e).1, (o.at_ x e).2⟩, o.shape, o.sub.trans hs⟩
theorem OwnBuf.ok {h H : AHeap} {es : Nat} {b : Option Buf} (o : OwnBuf h H es b) : bufOk (withoutB H b) es b := by
  cases b with
  | none => trivial
  | some b => exact ⟨by simp [withoutB, AHeap.del], (o.shape b rfl).1, (o.shape b rfl).2⟩
theorem OwnBuf.back {h H : AHeap} {es : Nat} {b : Option Buf} (o : OwnBuf h H es b) : bufH (withoutB H b) b = H := by
  cases b with
  | none => rfl
  | some b =>
    funext j
    by_cases e : j = b.blk
    · subst e
      show (AHeap.set _ _ _) _ = _
      rw [AHeap.set_same, (o.at_ b rfl).1]
    · show (AHeap.set _ _ _) _ = _
      rw [AHeap.set_ne _ _ e]
      simp [withoutB, AHeap.del, e]
theorem OwnBuf.sub0 {h H : AHeap} {es : Nat} {b : Option Buf} (o : OwnBuf h H es b) : Sub h (withoutB H b) := by
  cases b with
  | none => exact o.sub
  | some b => exact Sub.to_del o.sub (o.at_ b rfl).2
theorem OwnBuf.app {h H H' : AHeap} {es : Nat} {b b' : Option Buf} (o : OwnBuf h H es b) (o1 : bufOk (withoutB H b) es b') (o3 : Sub (bufH (withoutB H b) b') H') : OwnBuf h H' es b' := by
  refine ⟨fun x e => ?_, fun x e => ?_, (o.sub0.trans (Sub.buf o1)).trans o3⟩
  · subst e
    exact ⟨o3 _ _ (AHeap.set_same _ _ _), o.sub0.none o1.1⟩
  · subst e
    exact o1.2
theorem OwnBuf.isL {w₀ : World} {h H : AHeap} {es : Nat} {b : Option Buf} {xs : List (List AVal)} (o : OwnBuf h H es b) (hes : 0 < es) (hc : bufC b = xs.flatten) (hw : ∀ x ∈ xs, x.length = es) : IsL w₀ H es (bufV es b) xs :=
  IsL.buf o.ok hes hc hw (by rw [o.back]; exact Sub.refl _)
end Go.AM
namespace Go.Proofs.YtgnebodlkfblcaaDoor
open Go.AM
open Go.Proofs
open Go.Col
open Go.Prs
open Go.RowKit (Below)
set_option maxRecDepth 100000

structure PgG where
  i : Nat
  H : AHeap
  out : Option Buf
  acc : List (Int × Int)
structure PgOk (h : AHeap) (n : Nat) (f : Nat → List (Int × Int)) (s : PgG) : Prop where
  i : s.i ≤ n
  own : OwnBuf h s.H 2 s.out
  eq : bufC s.out = (s.acc.map pairC).flatten
  acc : s.acc = (List.range s.i).flatMap f
def rowP (lb : Nat) (pb : Nat → Option (List Str)) (is : Int → Int → Bool) (pa : Option (List Str)) (x : Nat) (j : Nat) : List (Int × Int) := match pa with
  | none => []
  | some p => ((List.range j).filter fun y => match pb y with | some q => p == q && is x y | none => false).map fun (y : Nat) => ((x : Int), (y : Int))
theorem loopE_eq (la lb : Nat) (pa pb : Nat → Option (List Str)) (is : Int → Int → Bool) : loopE la lb pa pb is = (List.range la).flatMap fun x => rowP lb pb is (pa x) x lb := rfl
theorem rowP_len (lb : Nat) (pb : Nat → Option (List Str)) (is : Int → Int → Bool) (pa : Option (List Str)) (x j : Nat) : (rowP lb pb is pa x j).length ≤ j := by
  unfold rowP
  cases pa with
  | none => simp
  | some p =>
    simp only [List.length_map]
    have := List.length_filter_le (fun y => match pb y with | some q => p == q && is x y | none => false) (List.range j)
    simpa using this
theorem rowP_step (lb : Nat) (pb : Nat → Option (List Str)) (is : Int → Int → Bool) (p : List Str) (x j : Nat) : rowP lb pb is (some p) x (j + 1) = rowP lb pb is (some p) x j ++ (if (match pb j with | some q => p == q && is x j | none => false) = true then [((x : Int), (j : Int))] else []) := by
  unfold rowP
  simp only
  rw [List.range_succ, List.filter_append, List.map_append]
  congr 1
  generalize hb : (match pb j with | some q => p == q && is x j | none => false) = b
  cases b
  · simp [List.filter, hb]
  · simp [List.filter, hb]
theorem flat_len (n m : Nat) (f : Nat → List (Int × Int)) (hf : ∀ x, (f x).length ≤ m) : ((List.range n).flatMap f).length ≤ n * m := by
  induction n with
  | zero => simp
  | succ n ih =>
    rw [List.range_succ, List.flatMap_append, List.length_append, Nat.succ_mul]
    have := hf n
    simp only [List.flatMap_cons, List.flatMap_nil, List.append_nil]
    omega
theorem isP_at (la lb : List ItemP) (x y : Nat) : isP la lb x y = (!decide ((la.getD x default).cat = 0) || !decide ((lb.getD y default).cat = 0)) := by
  unfold isP catOf
  simp only [Int.toNat_natCast, decide_not]

theorem climb_len (l : List ItemP) (g : Int) : ∀ (n : Nat) (it : Int) (ns : List Str) (gd : Bool), (climb l g n it ns gd).1.length ≤ ns.length + n
  | 0, it, ns, gd => by simp [climb]
  | n + 1, it, ns, gd => by
    rw [climb]
    split
    · have := climb_len l g n (l.getD it.toNat default).parent ((l.getD it.toNat default).name :: ns) (gd && eligE (l.getD it.toNat default))
      simp only [List.length_cons] at this
      omega
    · simp
set_option maxHeartbeats 2000000 in
theorem c_pairing (w₀ : World) (h : AHeap) (va vb : AVal) (ga gb : Int) (la lb : List (ItemP × ItemO)) (hva : IsL w₀ h 22 va (la.map itC)) (hvb : IsL w₀ h 22 vb (lb.map itC)) (hga : Prs.Good (items la)) (hgb : Prs.Good (items lb)) (hla : la.length ≤ 1000) (hlb : lb.length ≤ 1000) :
    ACall Tryd.prog w₀ 12 [va, vb, .int .i64 ga, .int .i64 gb] h
      (fun r h' => IsL w₀ h' 2 r ((loopE (items la).length (items lb).length (wantP (items la) ga) (wantP (items lb) gb) (isP (items la) (items lb))).map pairC) ∧ Sub h h') := by
  have hlva := hva.live
  have hlvb := hvb.live
  have na := it_len hva
  have nb := it_len hvb
  have hina := items_len la
  have hinb := items_len lb
  obtain ⟨f, hf⟩ : ∃ f, f = fun x => rowP lb.length (wantP (items lb) gb) (isP (items la) (items lb)) (wantP (items la) ga x) x lb.length := ⟨_, rfl⟩
  have hfl : ∀ x, (f x).length ≤ lb.length := fun x => by rw [hf]; exact rowP_len _ _ _ _ _ _
  rw [loopE_eq, hina, hinb, ← hf]
  refine acall_intro (n := 86) (rs := [.tmp 8]) Tryd.func12 rfl rfl rfl rfl (Nat.le_of_ble_eq_true rfl) ?_
  simp only [initSlots]
  -- region 0  law.go:107
  refine awp_rseq [0, 1, 2, 3] (by rfl) fun K hK => ?_
  simp (decide := true) only [aOps_nil, ev, absV, absS, putD, Slots.put, Slots.keep, if_true, if_false, true_and, ↓ap_assign, pop_assign, Nat.zero_add, Nat.reduceAdd]
  apply hK; clear hK K
  -- region 1  law.go:108
  refine awp_rseq [0, 1, 2, 3, 9] (by rfl) fun K hK => ?_
  simp (decide := true) only [aOps_nil, ev, absV, absS, putD, Slots.put, Slots.keep, if_true, if_false, true_and, ↓ap_assign, pop_assign]
  apply hK; clear hK K
  refine awp_seq ?_
  -- region 2  law.go:109
  refine awp_rseq [0, 1, 2, 3, 9, 10] (by rfl) fun K hK => ?_
  simp (decide := true) only [aOps_nil, ev, absV, absS, putD, Slots.put, Slots.keep, if_true, if_false, true_and, ↓ap_assign, pop_assign]
  apply hK; clear hK K
  refine awp_block ?_
  refine awp_loopG [0, 1, 2, 3, 9, 10] (fun s : PgG => [(0, va), (1, vb), (2, .int .i64 ga), (3, .int .i64 gb), (9, bufV 2 s.out), (10, .int .i64 s.i)]) (fun s : PgG => s.H) (fun s : PgG => PgOk h la.length f s) (fun s : PgG => la.length - s.i) ⟨0, h, none, []⟩ (by rfl) (Sub.refl _) ⟨Nat.zero_le _, .none (Sub.refl _), rfl, rfl⟩ ?_
  rintro ⟨i, H, out, acc⟩ ⟨hi, hown, heq, hacc⟩
  simp only at hi hown heq hacc ⊢
  have hs_H := hown.sub
  have hlo := bufV_live 2 out
  refine awp_seq ?_
  -- region 3  law.go:109
  refine awp_rseq [0, 1, 2, 3, 9, 10, 21] (by rfl) fun K hK => ?_
  simp (decide := true) only [aOps_nil, ev, putD, Slots.put, Slots.get, Slots.keep, if_true, if_false, true_and, ↓ap_move, pop_move, ↓ap_len, pop_len, ↓ap_binOp, pop_binOp, isNilC_tmp, cond_false, pBinX_int, pI_lss, na]
  apply hK; clear hK K
  refine awp_cond (b := _) rfl (fun hb1 => ?_) (fun hb1 => ?_)
  · try simp only [decide_eq_true_eq] at hb1
    have hi' : i < la.length := by omega
    refine awp_skip ?_
    change Awp _ _ _ _ _ _ _
    refine awp_seq ?_
    refine awp_block ?_
    -- region 5  law.go:110
    refine awp_rseq [0, 1, 2, 3, 9, 10, 11, 12, 13] (by rfl) fun K hK => ?_
    simp (decide := true) only [ev, putD, Slots.put, Slots.get, if_true, if_false, true_and, ↓ap_move, pop_move]
    refine aOps_call (by rfl) (by rfl) (c_pathL w₀ _ va ga i la (hva.mono (by repeat (first | exact Sub.refl _ | assumption | refine Sub.set_both ?_ _ _ | refine Sub.trans_set ?_ (by repeat (first | assumption | refine (AHeap.set_ne _ _ (by first | assumption | exact Ne.symm (by assumption))).trans ?_))))) hga hi' (by omega)) fun x5q3 h5q3 hx5q3 => ?_
    obtain ⟨pv, rfl, hpv, hs5⟩ := hx5q3
    have hlpv := hpv.live
    have hown5 := hown.mono hs5
    have hownP : OwnBuf (offH H h5q3) h5q3 2 out := ⟨fun x e => ⟨(hown5.at_ x e).1, offH_old (hown.at_ x e).1⟩, hown.shape, offH_sub _ _⟩
    obtain ⟨NP, hNP⟩ : ∃ NP, NP = offH H h5q3 := ⟨_, rfl⟩
    rw [← hNP] at hpv hownP
    have hw0 : wantP (items la) ga i = if belowE (items la) ga i && goodE (items la) ga i then some (namesE (items la) ga i) else none := rfl
    have hnl : (namesE (items la) ga i).length ≤ la.length + 1 := by
      have := climb_len (items la) ga ((items la).length + 1) i [] true
      rw [hina] at this
      simpa [namesE, hina] using this
    have hs_h5q3 : Sub h h5q3 := Sub.trans (by repeat (first | exact Sub.refl _ | assumption | refine Sub.trans_set ?_ (by assumption))) hs5
    have hr_h5q3 : Sub H h5q3 := Sub.trans (by repeat (first | exact Sub.refl _ | assumption | refine Sub.trans_set ?_ (by assumption))) hs5
    simp (decide := true) only [aOps_nil, ev, putD, Slots.put, Slots.get, Slots.keep, if_true, if_false, true_and, ↓ap_move, pop_move, ↓ap_extract, pop_extract, pExt_tuple, List.length_cons, List.length_nil, List.getD_cons_zero, List.getD_cons_succ, ↓ap_assign, pop_assign, List.getD_cons_zero, List.getD_cons_succ, Nat.zero_add, Nat.reduceAdd]
    apply hK; clear hK K
    -- region 6  law.go:111
    refine awp_rseq [0, 1, 2, 3, 9, 10, 11, 12, 13, 14] (by rfl) fun K hK => ?_
    simp (decide := true) only [aOps_nil, ev, absV, absS, putD, Slots.put, Slots.keep, if_true, if_false, true_and, ↓ap_assign, pop_assign]
    apply hK; clear hK K
    refine awp_block ?_
    refine awp_loopG [0, 1, 2, 3, 9, 10, 11, 12, 13, 14] (fun s : PgG => [(0, va), (1, vb), (2, .int .i64 ga), (3, .int .i64 gb), (9, bufV 2 s.out), (10, .int .i64 i), (11, pv), (12, .bool (belowE (items la) ga i)), (13, .bool (goodE (items la) ga i)), (14, .int .i64 s.i)]) (fun s : PgG => s.H) (fun s : PgG => (s.i ≤ lb.length ∧ OwnBuf h s.H 2 s.out ∧ OwnBuf NP s.H 2 s.out) ∧ bufC s.out = (s.acc.map pairC).flatten ∧ s.acc = acc ++ rowP lb.length (wantP (items lb) gb) (isP (items la) (items lb)) (wantP (items la) ga i) i s.i) (fun s : PgG => lb.length - s.i) ⟨0, h5q3, out, acc⟩ (by rfl) (Sub.refl _) ⟨⟨Nat.zero_le _, hown5, hownP⟩, heq, by unfold rowP; cases wantP (items la) ga i <;> simp⟩ ?_
    rintro ⟨j, H2, out2, acc2⟩ ⟨⟨hj, hown2, hownP2⟩, heq2, hacc2⟩
    simp only at hj hown2 hownP2 heq2 hacc2 ⊢
    have hs_H2 := hown2.sub
    have hlo2 := bufV_live 2 out2
    refine awp_seq ?_
    -- region 7  law.go:111
    refine awp_rseq [0, 1, 2, 3, 9, 10, 11, 12, 13, 14, 41] (by rfl) fun K hK => ?_
    simp (decide := true) only [aOps_nil, ev, absV, absS, putD, Slots.put, Slots.get, Slots.keep, if_true, if_false, true_and, ↓ap_move, pop_move, ↓ap_len, pop_len, ↓ap_binOp, pop_binOp, isNilC_tmp, cond_false, pBinX_int, pI_lss, ↓ag_move, agP, agQ_some, nthDst, gKnown_bool, guardB_bool_true, implies_true, ↓ap_pick, pop_pick, pPick_bool, pickV_cond_l, pickV_and, nb]
    apply hK; clear hK K
    refine awp_cond (b := _) rfl (fun hb2 => ?_) (fun hb2 => ?_)
    · try simp only [decide_eq_true_eq, Bool.and_eq_true] at hb2
      have hj' : j < lb.length := by omega
      have hw1 : wantP (items la) ga i = some (namesE (items la) ga i) := by rw [hw0, hb2.1.2, hb2.2]; rfl
      refine awp_skip ?_
      change Awp _ _ _ _ _ _ _
      refine awp_seq ?_
      refine awp_block ?_
      -- region 9  law.go:112
      refine awp_rseq [0, 1, 2, 3, 9, 10, 11, 12, 13, 14, 15, 16, 17] (by rfl) fun K hK => ?_
      simp (decide := true) only [ev, putD, Slots.put, Slots.get, if_true, if_false, true_and, ↓ap_move, pop_move]
      refine aOps_call (by rfl) (by rfl) (c_pathL w₀ _ vb gb j lb (hvb.mono (by repeat (first | exact Sub.refl _ | assumption | refine Sub.set_both ?_ _ _ | refine Sub.trans_set ?_ (by repeat (first | assumption | refine (AHeap.set_ne _ _ (by first | assumption | exact Ne.symm (by assumption))).trans ?_))))) hgb hj' (by omega)) fun x9q3 h9q3 hx9q3 => ?_
      obtain ⟨qv, rfl, hqv, hs9⟩ := hx9q3
      have hlqv := hqv.live
      have hown9 := hown2.mono hs9
      have hownP9 := hownP2.mono hs9
      have hpv9 := hpv.mono hownP9.sub
      have hqv9 := hqv.mono (offH_sub _ _)
      have hs_h9q3 : Sub h h9q3 := Sub.trans (by repeat (first | exact Sub.refl _ | assumption | refine Sub.trans_set ?_ (by assumption))) hs9
      have hr_h9q3 : Sub H2 h9q3 := Sub.trans (by repeat (first | exact Sub.refl _ | assumption | refine Sub.trans_set ?_ (by assumption))) hs9
      simp (decide := true) only [aOps_nil, ev, putD, Slots.put, Slots.get, Slots.keep, if_true, if_false, true_and, ↓ap_move, pop_move, ↓ap_extract, pop_extract, pExt_tuple, List.length_cons, List.length_nil, List.getD_cons_zero, List.getD_cons_succ, ↓ap_assign, pop_assign, List.getD_cons_zero, List.getD_cons_succ, Nat.zero_add, Nat.reduceAdd]
      apply hK; clear hK K
      obtain ⟨lca, oa, cpa, rfl⟩ := it_open hva (by omega)
      obtain ⟨lcb, ob, cpb, rfl⟩ := it_open hvb (by omega)
      have ea := it_rd (hva.mono hs_h9q3) hi' (j := 3) (by decide)
      have eb := it_rd (hvb.mono hs_h9q3) hj' (j := 3) (by decide)
      obtain ⟨⟨xa, qa⟩, hxa⟩ : ∃ z, la.getD i default = z := ⟨_, rfl⟩
      obtain ⟨⟨xb, qb⟩, hxb⟩ : ∃ z, lb.getD j default = z := ⟨_, rfl⟩
      rw [hxa] at ea
      rw [hxb] at eb
      have ea' : rd w₀ h9q3 lca (oa + i * 22 + 3) = .int .u8 xa.cat := ea
      have eb' : rd w₀ h9q3 lcb (ob + j * 22 + 3) = .int .u8 xb.cat := eb
      have hisp : isP (items la) (items lb) (i : Int) (j : Int) = (!decide (xa.cat = 0) || !decide (xb.cat = 0)) := by
        rw [isP_at, items_getD, items_getD, hxa, hxb]
      have hst := rowP_step lb.length (wantP (items lb) gb) (isP (items la) (items lb)) (namesE (items la) ga i) i j
      have hwb : wantP (items lb) gb j = if belowE (items lb) gb j && goodE (items lb) gb j then some (namesE (items lb) gb j) else none := rfl
      have hal : acc.length ≤ i * lb.length := by rw [hacc]; exact flat_len _ _ _ hfl
      have hrl := rowP_len lb.length (wantP (items lb) gb) (isP (items la) (items lb)) (wantP (items la) ga i) i j
      have hmul : i * lb.length ≤ 1000 * 1000 := Nat.mul_le_mul (by omega) (by omega)
      have hal2 : acc2.length ≤ 1001000 := by
        rw [hacc2, List.length_append]
        omega
      -- region 10  law.go:113
      refine awp_rseq [0, 1, 2, 3, 9, 10, 11, 12, 13, 14, 78] (by kernel_rfl) fun K hK => ?_
      simp (decide := true) only [ev, absV, absS, putD, Slots.put, Slots.get, if_true, if_false, true_and, ↓ap_move, pop_move, ↓ag_move, agP, agQ_some, nthDst, gKnown_bool, guardB_bool_true, implies_true, ↓ap_pick, pop_pick, pPick_bool, pickV_cond_l, pickV_and]
      (refine aOps_gcall (V := .bool (decide (namesE (items la) ga i = namesE (items lb) gb j))) (f := _) (cap := _) (xs := _) (by first | rfl | (simp (decide := true) only [gv, nthDst, Slots.get, if_true, if_false, gKnown_cond, gKnown_bool])) (fun hg => ⟨rfl, ?_⟩) (fun hg => c_sameL w₀ _ pv qv _ _ hpv9 hqv9 (by omega)) ?_; · (simp (decide := true) only [gv, nthDst, Slots.get, if_true, if_false, guardB_bool_true] at hg; simp (decide := true) only [evs, ev, Slots.get, if_true, if_false, hg, condV_true, List.append_nil, List.map_cons, List.map_nil] <;> try rfl))
      simp (decide := true) only [aOps_nil, ev, absV, absS, putD, Slots.put, Slots.get, Slots.keep, if_true, if_false, true_and, gv, nthDst, guardB_bool_true, guardB_bool_false, guardB_cond, ↓ap_pick, pop_pick, pPick_bool, pickV_cond_l, cp_nest3, pickV_and, pickV_or, ↓ap_move, pop_move, ↓ag_move, agP, agQ_some, gKnown_bool, gKnown_cond, cv_cv, implies_true, Bool.not_not, ↓ag_indexAddrL, agQL_some, agL_mk, agL_il1, agL_il6, agL_ir6, agL_ir1, pIndexAddr_slice Tryd.underlying25 sz44, ↓ag_fieldAddr, pop_fieldAddr, fa44_3, cv_fieldAddr, cp_fieldAddr, fa41_0, ↓ag_loadL, agL_ld1, agL_ld6, pLoad_one ag38, ↓ag_binOp, pop_binOp, isNilC_int, cond_false, cv_binl, cp_binl, pBinX_int, pI_neq, ↓ag_pick, cv_pick, cp_pick, lv_int, ea', eb', Int.toNat_natCast]
      repeat (with_reducible refine And.intro ?_ ?_; · first | trivial | omega | (intro hg; simp only [Bool.and_eq_true, Bool.or_eq_true, Bool.not_eq_true', Bool.and_eq_false_iff, Bool.or_eq_false_iff, Bool.not_eq_false', decide_eq_true_eq, decide_eq_false_iff_not, eqNil] at hg; omega) )
      apply hK; clear hK K
      refine awp_cond (b := _) rfl (fun hb3 => ?_) (fun hb3 => ?_)
      · try simp only [decide_eq_true_eq, decide_eq_false_iff_not, Bool.not_eq_true', Bool.and_eq_true, Bool.or_eq_true] at hb3
        -- region 11  law.go:114
        refine awp_r [0, 1, 2, 3, 9, 10, 11, 12, 13, 14] (by rfl) ?_
        simp (decide := true) only [ev, absV, absS, putD, Slots.put, Slots.get, if_true, if_false, true_and, ↓ap_move, pop_move, ↓ap_build, ↓pop_buildL, bld37_0_1, evP, List.map_cons, List.map_nil]
        refine aOps_buildSlice (cs := [.int .i64 i, .int .i64 j]) (by kernel_rfl) fun k11q4 hk11q4 => ?_
        have hn_11q4 : h9q3 k11q4 = none := by first | assumption | (simp only [AHeap.set_none] at hk11q4; simp only [hk11q4])
        have hf_11q4 : h k11q4 = none := Sub.none hs_h9q3 hn_11q4
        refine aOps_appendL (es := 2) (zs := acc2.map pairC) (xs := [pairC ((i : Int), (j : Int))]) (h₀ := withoutB h9q3 out2) (b := out2) (by rfl) (by rfl) Tryd.underlying30 Tryd.underlying30 (fun k e => by cases e) sz37 by37 ze37 (by rfl) (by decide) (by rfl) hown9.ok heq2 pairC_wide (by rw [hown9.back]; exact (by repeat (first | exact Sub.refl _ | assumption | refine Sub.set_both ?_ _ _ | refine Sub.trans_set ?_ (by repeat (first | assumption | refine (AHeap.set_ne _ _ (by first | assumption | exact Ne.symm (by assumption))).trans ?_))))) (by rfl) (IsL.own (by repeat (first | exact AHeap.set_same _ _ _ | assumption | refine (AHeap.set_ne _ _ (by first | assumption | exact Ne.symm (by assumption))).trans ?_)) (by simp [pairC]) (by rfl) (by rfl) (.exact 1) (Nat.le_refl _)) (by rfl) (by simp; omega) (by simp; omega) fun out3 h11 o1 o2 o3 => ?_
        simp (decide := true) only [aOps_nil, ev, putD, Slots.put, Slots.get, Slots.keep, if_true, if_false, true_and, ↓ap_assign, pop_assign]
        change Awp _ _ _ _ _ _ _
        -- region 8  law.go:111
        refine awp_r [0, 1, 2, 3, 9, 10, 11, 12, 13, 14] (by rfl) ?_
        simp (decide := true) only [aOps_nil, ev, absV, absS, putD, Slots.put, Slots.get, Slots.keep, if_true, if_false, true_and, ↓ap_move, pop_move, ↓ap_binOp, pop_binOp, isNilC_int, cond_false, pBinX_int, pI_add, ↓ap_assign, pop_assign]
        try simp (disch := omega) only [wrap_i64]
        try simp only [thenA_normal]
        rw [hw1] at hacc2
        first
        | (refine ⟨⟨j + 1, h11, out3, acc2 ++ [((i : Int), (j : Int))]⟩, rfl, Sub.refl _, ⟨⟨hj', hown9.app o1 o3, hownP9.app o1 o3⟩, by rw [o2, List.map_append]; rfl, ?_⟩, by simp only; omega⟩
           simp only
           rw [hw1, hst, hacc2, List.append_assoc, hwb, hb3.1.1.1, hb3.1.1.2, if_pos]
           simp only [Bool.and_self, if_true, hisp, Bool.and_eq_true, beq_iff_eq]
           exact ⟨hb3.1.2, by simpa using hb3.2⟩)
        | (refine ⟨⟨j + 1, h9q3, out2, acc2⟩, rfl, Sub.refl _, ⟨⟨hj', hown9, hownP9⟩, heq2, ?_⟩, by simp only; omega⟩
           simp only
           rw [hw1, hst, hacc2, hwb, if_neg, List.append_nil]
           intro hc
           split at hc
           · rename_i q hq
             split at hq
             · rename_i hbg
               rw [Option.some.injEq] at hq
               subst hq
               simp only [hisp, Bool.and_eq_true, beq_iff_eq, Bool.or_eq_true, Bool.not_eq_true', decide_eq_false_iff_not] at hc
               simp only [Bool.and_eq_true] at hbg
               rcases hb3 with ((e | e) | e) | ⟨e1, e2⟩
               · rw [hbg.1] at e; cases e
               · rw [hbg.2] at e; cases e
               · exact e hc.1
               · rcases hc.2 with e | e
                 · exact e e1
                 · exact e e2
             · cases hq
           · cases hc)
      · try simp only [decide_eq_true_eq, decide_eq_false_iff_not, Bool.not_eq_false', Bool.and_eq_false_iff, Bool.or_eq_false_iff] at hb3
        refine awp_skip ?_
        change Awp _ _ _ _ _ _ _
        -- region 8  law.go:111
        refine awp_r [0, 1, 2, 3, 9, 10, 11, 12, 13, 14] (by rfl) ?_
        simp (decide := true) only [aOps_nil, ev, absV, absS, putD, Slots.put, Slots.get, Slots.keep, if_true, if_false, true_and, ↓ap_move, pop_move, ↓ap_binOp, pop_binOp, isNilC_int, cond_false, pBinX_int, pI_add, ↓ap_assign, pop_assign]
        try simp (disch := omega) only [wrap_i64]
        try simp only [thenA_normal]
        rw [hw1] at hacc2
        first
        | (refine ⟨⟨j + 1, h11, out3, acc2 ++ [((i : Int), (j : Int))]⟩, rfl, Sub.refl _, ⟨⟨hj', hown9.app o1 o3, hownP9.app o1 o3⟩, by rw [o2, List.map_append]; rfl, ?_⟩, by simp only; omega⟩
           simp only
           rw [hw1, hst, hacc2, List.append_assoc, hwb, hb3.1.1.1, hb3.1.1.2, if_pos]
           simp only [Bool.and_self, if_true, hisp, Bool.and_eq_true, beq_iff_eq]
           exact ⟨hb3.1.2, by simpa using hb3.2⟩)
        | (refine ⟨⟨j + 1, h9q3, out2, acc2⟩, rfl, Sub.refl _, ⟨⟨hj', hown9, hownP9⟩, heq2, ?_⟩, by simp only; omega⟩
           simp only
           rw [hw1, hst, hacc2, hwb, if_neg, List.append_nil]
           intro hc
           split at hc
           · rename_i q hq
             split at hq
             · rename_i hbg
               rw [Option.some.injEq] at hq
               subst hq
               simp only [hisp, Bool.and_eq_true, beq_iff_eq, Bool.or_eq_true, Bool.not_eq_true', decide_eq_false_iff_not] at hc
               simp only [Bool.and_eq_true] at hbg
               rcases hb3 with ((e | e) | e) | ⟨e1, e2⟩
               · rw [hbg.1] at e; cases e
               · rw [hbg.2] at e; cases e
               · exact e hc.1
               · rcases hc.2 with e | e
                 · exact e e1
                 · exact e e2
             · cases hq
           · cases hc)
    · try simp only [decide_eq_false_iff_not, Bool.and_eq_false_iff] at hb2
      refine awp_exit ?_
      change Awp _ _ _ _ _ _ _
      -- region 4  law.go:109
      refine awp_r [0, 1, 2, 3, 9, 10] (by rfl) ?_
      simp (decide := true) only [aOps_nil, ev, absV, absS, putD, Slots.put, Slots.get, Slots.keep, if_true, if_false, true_and, ↓ap_move, pop_move, ↓ap_binOp, pop_binOp, isNilC_int, cond_false, pBinX_int, pI_add, ↓ap_assign, pop_assign]
      try simp (disch := omega) only [wrap_i64]
      try simp only [thenA_normal]
      have hfi : rowP lb.length (wantP (items lb) gb) (isP (items la) (items lb)) (wantP (items la) ga i) i j = f i := by
        rw [hf]
        simp only
        by_cases hjl : j = lb.length
        · rw [hjl]
        · have hw1 : wantP (items la) ga i = none := by
            rw [hw0]
            rcases hb2 with (e | e) | e
            · omega
            · rw [e]; rfl
            · rw [e, Bool.and_false]; rfl
          rw [hw1]
          rfl
      refine ⟨⟨i + 1, H2, out2, acc2⟩, rfl, Sub.refl _, ⟨hi', hown2, heq2, ?_⟩, by simp only; omega⟩
      simp only
      rw [hacc2, hfi, hacc, List.range_succ, List.flatMap_append]
      simp
  · try simp only [decide_eq_false_iff_not] at hb1
    refine awp_exit ?_
    change Awp _ _ _ _ _ _ _
    -- region 12  law.go:118
    refine awp_rseq [8] (by rfl) fun K hK => ?_
    simp (decide := true) only [aOps_nil, ev, putD, Slots.put, Slots.get, Slots.keep, if_true, if_false, true_and, ↓ap_move, pop_move, ↓ap_assign, pop_assign]
    apply hK; clear hK K
    refine awp_ret ?_
    refine retA_retE (resPre_tmp (resPre_nil)) ?_
    simp (decide := true) only [Slots.get, if_true, resOf_one]
    exact ⟨H, Sub.refl _, by rw [show i = la.length by omega] at hacc; rw [← hacc]; exact hown.isL (by decide) heq pairC_wide, hs_H⟩
end Go.Proofs.YtgnebodlkfblcaaDoor

/-
  The example of the laws of pairs.
  Conditions: none.
-/
namespace Go.Prs
open Go.Col (Str digs)

def namedE (name : Str) (level parent cat occurs : Int) : ItemP := ⟨name, level, parent, cat, occurs, -1, -1⟩
def exA : List ItemP := [namedE [65] 1 (-1) 0 1, namedE [88] 2 0 4 1, namedE [71] 2 0 0 1, namedE [89] 3 2 4 1, namedE [90] 3 2 4 1, namedE filler 2 0 4 1, namedE [84] 2 0 4 3]
def exB : List ItemP := [namedE [66] 1 (-1) 0 1, namedE [71] 2 0 0 1, namedE [90] 3 1 2 1, namedE [89] 3 1 4 1, namedE [88] 2 0 0 1, namedE [89] 3 4 4 1, namedE [84] 2 0 4 1]
theorem ex_pairs : amongR exA exB 0 0 (isP exA exB) = ([(1, 4), (3, 3), (4, 2)], 0) := by decide +kernel
theorem ex_numbers : amongR exA exB 0 0 (isN exA exB) = ([(3, 3)], 0) := by decide +kernel
theorem ex_path : pathR exA 0 3 = ([[71], [89]], 0) := by decide +kernel
end Go.Prs

/-
  Equality of pairs of numbers.
  Conditions: none.
-/
namespace Go.Proofs.YtgnebodlkfblcaaDoor
open Go.AM
open Go.Proofs
theorem eqv37 (a0 b0 a1 b1 : Int) : (eqA Tryd.prog 40 37 (.agg [.int .i64 a0, .int .i64 a1]) (.agg [.int .i64 b0, .int .i64 b1])).val = .bool (decide (a0 = b0) && (decide (a1 = b1) && true)) := by kernel_rfl
theorem eqp37 (a0 b0 a1 b1 : Int) : (eqA Tryd.prog 40 37 (.agg [.int .i64 a0, .int .i64 a1]) (.agg [.int .i64 b0, .int .i64 b1])).pre = ((0 < 2) ∧ (0 < 2) ∧ True ∧ ((1 < 2) ∧ (1 < 2) ∧ True ∧ True)) := by kernel_rfl
theorem egT37 : Tryd.prog.eqGuardType Tryd.prog.depth 37 = false := by kernel_rfl
theorem eq37 (a0 b0 a1 b1 : Int) : pAggEq Tryd.prog .eql 37 (.agg [.int .i64 a0, .int .i64 a1]) (.agg [.int .i64 b0, .int .i64 b1]) = ⟨True, .bool (decide (a0 = b0) && decide (a1 = b1))⟩ := by
  simp only [pAggEq, eqv37, eqp37, egT37, PR.mk.injEq, and_true, Bool.and_true]; decide
theorem ne37 (a0 b0 a1 b1 : Int) : pAggEq Tryd.prog .neq 37 (.agg [.int .i64 a0, .int .i64 a1]) (.agg [.int .i64 b0, .int .i64 b1]) = ⟨True, .bool (!(decide (a0 = b0) && decide (a1 = b1)))⟩ := by
  simp only [pAggEq, eqv37, eqp37, egT37, PR.mk.injEq, and_true, Bool.and_true]; decide
end Go.Proofs.YtgnebodlkfblcaaDoor

/-
  Contracts: the laws' own functions named and lives.
  Conditions: none.
-/
namespace Go.Proofs.YtgnebodlkfblcaaDoor
open Go.AM
open Go.Proofs
open Go.Col
open Go.Prs
open Go.RowKit (Below)
set_option maxRecDepth 100000

def namO : ItemO := ⟨0, [], 0, 0, false, false, false, false, false, 0, 0, 0, -1, -1, .nilSlice, rfl⟩
theorem itemC_named (name : Str) (level parent cat occ : Int) : itemC (namedE name level parent cat occ) namO = [.str name, .int .i64 level, .int .i64 parent, .int .u8 cat, .int .u8 0, .str [], .int .i64 0, .int .i64 0, .bool false, .bool false, .bool false, .bool false, .bool false, .int .i64 0, .int .i64 0, .int .i64 occ, .int .i64 0, .int .i64 (-1), .int .i64 (-1), .int .i64 (-1), .int .i64 (-1), .nilSlice] := rfl
theorem c_named (w₀ : World) (h : AHeap) (name : Str) (level parent cat : Int) : ACall Tryd.prog w₀ 20 [.str name, .int .i64 level, .int .i64 parent, .int .u8 cat] h (fun r h' => r = .agg (itemC (namedE name level parent cat 1) namO) ∧ h' = h) := by
  rw [itemC_named]
  refine acall_intro (n := 15) (rs := [.cell 8 44]) Tryd.func20 rfl rfl rfl rfl (Nat.le_of_ble_eq_true rfl) ?_
  simp only [initSlots]
  -- region 0  law.go:65
  refine awp_rseq [0, 1, 2, 3, 8] (by rfl) fun K hK => ?_
  refine aOps_alloc ze44 (cs := [.str [], .int .i64 0, .int .i64 0, .int .u8 0, .int .u8 0, .str [], .int .i64 0, .int .i64 0, .bool false, .bool false, .bool false, .bool false, .bool false, .int .i64 0, .int .i64 0, .int .i64 0, .int .i64 0, .int .i64 0, .int .i64 0, .int .i64 0, .int .i64 0, .nilSlice]) (by rfl) fun k0q0 hk0q0 => ?_
  try have hf_0q0 : h k0q0 = none := by first | assumption | (simp only [AHeap.set_none] at hk0q0; simp only [hk0q0])
  simp (decide := true) only [aOps_nil, putD, Slots.put, Slots.keep, if_true, if_false, Nat.zero_add, Nat.reduceAdd]
  apply hK; clear hK K
  -- region 1  law.go:66
  refine awp_rseq [8] (by rfl) fun K hK => ?_
  simp (decide := true) only [ev, absV, absS, putD, Slots.put, Slots.get, if_true, if_false, true_and, ↓ap_move, pop_move, ↓ap_build, ↓pop_buildL, bld41_0, evP, List.map_cons, List.map_nil, bld44_0_1_2_5_7_8_9_10_3]
  refine aOps_store (by rfl) (by rfl) (by repeat (first | exact AHeap.set_same _ _ _ | assumption | refine (AHeap.set_ne _ _ (by first | assumption | exact Ne.symm (by assumption))).trans ?_)) sz44 (by rfl) (by rfl) (by first | exact Nat.le_refl _ | decide | (simp; done) | (simp; omega)) (Nat.zero_le _) (by rfl) ?_
  simp only [AHeap.set_set, AVal.cells]
  simp (decide := true) only [aOps_nil, ev, putD, Slots.get, Slots.keep, if_true, if_false, setAt, List.set_cons_zero, List.set_cons_succ, Nat.zero_add, Nat.reduceAdd]
  apply hK; clear hK K
  refine awp_ret ?_
  refine retA_ret h (by repeat (first | exact Sub.refl _ | assumption | refine Sub.trans_set ?_ (by assumption))) (?_) ?_
  · simp (decide := true) only [resPre, resV_cell, Slots.get, if_true, and_true, resV_cell, pLoad_agg ag44 sz44, rd_set, cellsAt, List.getD_cons_zero, List.getD_cons_succ, Nat.zero_add, Nat.reduceAdd, lv_bool, lv_int, lv_str, lv_nilSlice, allLive, Bool.and_true, cellsAt, List.getD_cons_zero, List.getD_cons_succ, Nat.zero_add, Nat.reduceAdd, lv_bool, lv_int, lv_str, lv_nilSlice, allLive, Bool.and_true]
  
  simp (decide := true) only [Slots.get, if_true, and_true, resOfG_one, resV_cell, pLoad_agg ag44 sz44, rd_set, cellsAt, List.getD_cons_zero, List.getD_cons_succ, Nat.zero_add, Nat.reduceAdd, lv_bool, lv_int, lv_str, lv_nilSlice, allLive, Bool.and_true, cellsAt, List.getD_cons_zero, List.getD_cons_succ, Nat.zero_add, Nat.reduceAdd, lv_bool, lv_int, lv_str, lv_nilSlice, allLive, Bool.and_true]
  all_goals first | rfl | exact ⟨rfl, rfl⟩ | (simp (decide := true) only [if_true, if_false, *]; done) | (trace_state; fail)
def lvA : List (ItemP × ItemO) := exA.map fun p => (p, namO)
def lvB : List (ItemP × ItemO) := exB.map fun p => (p, namO)
theorem items_lvA : items lvA = exA := by unfold items lvA; rw [List.map_map]; exact List.map_id exA
theorem items_lvB : items lvB = exB := by unfold items lvB; rw [List.map_map]; exact List.map_id exB
theorem lvA_live : allLive (lvA.map itC).flatten = true := by kernel_rfl
theorem lvB_live : allLive (lvB.map itC).flatten = true := by kernel_rfl
theorem it_wide {l : List (ItemP × ItemO)} : ∀ x ∈ l.map itC, x.length = 22 := fun x hx => by obtain ⟨y, _, rfl⟩ := List.mem_map.1 hx; rfl
theorem lvA_key : ∀ y ∈ pathsE (items lvA) 0 true, (keyE y.2).length ≤ 140737488355328 := by rw [items_lvA]; decide +kernel
theorem lvB_key : ∀ y ∈ pathsE (items lvB) 0 true, (keyE y.2).length ≤ 140737488355328 := by rw [items_lvB]; decide +kernel
theorem toNat_two : Int.toNat 2 = 2 := rfl
set_option maxHeartbeats 4000000 in
theorem l_lives5 (w₀ : World) (ht10 : Tab10 w₀) (h H : AHeap) (k2 k3 : Nat) (va vb : AVal) (hs_H : Sub h H) (eb_2 : H k2 = some ⟨[va, .int .i64 0, .int .i64 0], 0⟩) (eb_3 : H k3 = some ⟨[vb, .int .i64 0, .int .i64 0], 0⟩)
    (hva : IsL w₀ H 22 va (lvA.map itC)) (hvb : IsL w₀ H 22 vb (lvB.map itC)) :
    Awp Tryd.prog w₀ 114 (dropSeq 5 (bodyOf Tryd.f13)) (retA Tryd.prog w₀ [.tmp 0] (fun r h' => r = .bool true ∧ h' = h)) [(2, .ptr (.own k2) 0), (3, .ptr (.own k3) 0)] (H) := by
  have hlva := hva.live
  have hlvb := hvb.live
  have hga : GrpOk w₀ H va 0 lvA := ⟨hva, by decide, lvA_key⟩
  have hgb : GrpOk w₀ H vb 0 lvB := ⟨hvb, by decide, lvB_key⟩
  have hP := ex_pairs
  have hN := ex_numbers
  have hQ := ex_path
  rw [← items_lvA, ← items_lvB] at hP hN
  rw [← items_lvA] at hQ
  change Awp _ _ _ (Code.seq _ _) _ _ _
  -- region 5  law.go:75
  refine awp_rseq [2, 3, 4, 5] (by rfl) fun K hK => ?_
  simp (decide := true) only [ev, putD, Slots.put, Slots.get, if_true, if_false, true_and, ↓ap_loadL, apL_mk, pLoad_agg ag35 sz35, Bool.and_true, rd_own w₀ eb_2, rd_own w₀ eb_3, cellsAt, List.getD_cons_zero, List.getD_cons_succ, Nat.zero_add, Nat.reduceAdd, lv_int, allLive, Bool.and_true, hlva, hlvb]
  refine aOps_call (by rfl) (by rfl) (c_Pairs w₀ ht10 _ va vb 0 0 0 0 lvA lvB (hga.mono (by repeat (first | exact Sub.refl _ | assumption | refine Sub.set_both ?_ _ _ | refine Sub.trans_set ?_ (by repeat (first | assumption | refine (AHeap.set_ne _ _ (by first | assumption | exact Ne.symm (by assumption))).trans ?_))))) (hgb.mono (by repeat (first | exact Sub.refl _ | assumption | refine Sub.set_both ?_ _ _ | refine Sub.trans_set ?_ (by repeat (first | assumption | refine (AHeap.set_ne _ _ (by first | assumption | exact Ne.symm (by assumption))).trans ?_)))))) fun x5q2 h5q2 hx5q2 => ?_
  obtain ⟨ov, rfl, hov, hcov, hs5⟩ := hx5q2
  rw [hP] at hov ⊢
  have hlov := hov.live
  have hs_h5q2 : Sub h h5q2 := Sub.trans (by repeat (first | exact Sub.refl _ | assumption | refine Sub.trans_set ?_ (by assumption))) hs5
  have hr_h5q2 : Sub H h5q2 := Sub.trans (by repeat (first | exact Sub.refl _ | assumption | refine Sub.trans_set ?_ (by assumption))) hs5
  have eb_2 := hs5 k2 _ (by repeat (first | exact AHeap.set_same _ _ _ | assumption | refine (AHeap.set_ne _ _ (by first | assumption | exact Ne.symm (by assumption))).trans ?_))
  have eb_3 := hs5 k3 _ (by repeat (first | exact AHeap.set_same _ _ _ | assumption | refine (AHeap.set_ne _ _ (by first | assumption | exact Ne.symm (by assumption))).trans ?_))
  simp (decide := true) only [aOps_nil, ev, putD, Slots.put, Slots.get, Slots.keep, if_true, if_false, true_and, ↓ap_move, pop_move, ↓ap_extract, pop_extract, pExt_tuple, List.length_cons, List.length_nil, List.getD_cons_zero, List.getD_cons_succ, ↓ap_assign, pop_assign, List.getD_cons_zero, List.getD_cons_succ, Nat.zero_add, Nat.reduceAdd]
  apply hK; clear hK K
  -- region 6  law.go:76
  refine awp_rseq [2, 4, 5, 6, 7] (by rfl) fun K hK => ?_
  simp (decide := true) only [ev, putD, Slots.put, Slots.get, if_true, if_false, true_and, ↓ap_loadL, apL_mk, pLoad_agg ag35 sz35, Bool.and_true, rd_own w₀ eb_2, rd_own w₀ eb_3, cellsAt, List.getD_cons_zero, List.getD_cons_succ, Nat.zero_add, Nat.reduceAdd, lv_int, allLive, Bool.and_true, hlva, hlvb]
  refine aOps_call (by rfl) (by rfl) (c_Numbers w₀ ht10 _ va vb 0 0 0 0 lvA lvB (hga.mono (by repeat (first | exact Sub.refl _ | assumption | refine Sub.set_both ?_ _ _ | refine Sub.trans_set ?_ (by repeat (first | assumption | refine (AHeap.set_ne _ _ (by first | assumption | exact Ne.symm (by assumption))).trans ?_))))) (hgb.mono (by repeat (first | exact Sub.refl _ | assumption | refine Sub.set_both ?_ _ _ | refine Sub.trans_set ?_ (by repeat (first | assumption | refine (AHeap.set_ne _ _ (by first | assumption | exact Ne.symm (by assumption))).trans ?_)))))) fun x6q2 h6q2 hx6q2 => ?_
  obtain ⟨nv, rfl, hnv, hcnv, hs6⟩ := hx6q2
  rw [hN] at hnv ⊢
  have hlnv := hnv.live
  have hs_h6q2 : Sub h h6q2 := Sub.trans (by repeat (first | exact Sub.refl _ | assumption | refine Sub.trans_set ?_ (by assumption))) hs6
  have hr_h6q2 : Sub h5q2 h6q2 := Sub.trans (by repeat (first | exact Sub.refl _ | assumption | refine Sub.trans_set ?_ (by assumption))) hs6
  have eb_2 := hs6 k2 _ (by repeat (first | exact AHeap.set_same _ _ _ | assumption | refine (AHeap.set_ne _ _ (by first | assumption | exact Ne.symm (by assumption))).trans ?_))
  have eb_3 := hs6 k3 _ (by repeat (first | exact AHeap.set_same _ _ _ | assumption | refine (AHeap.set_ne _ _ (by first | assumption | exact Ne.symm (by assumption))).trans ?_))
  simp (decide := true) only [aOps_nil, ev, putD, Slots.put, Slots.get, Slots.keep, if_true, if_false, true_and, ↓ap_move, pop_move, ↓ap_extract, pop_extract, pExt_tuple, List.length_cons, List.length_nil, List.getD_cons_zero, List.getD_cons_succ, ↓ap_assign, pop_assign, List.getD_cons_zero, List.getD_cons_succ, Nat.zero_add, Nat.reduceAdd]
  apply hK; clear hK K
  -- region 7  law.go:77
  refine awp_rseq [4, 5, 6, 7, 8, 9] (by rfl) fun K hK => ?_
  simp (decide := true) only [ev, putD, Slots.put, Slots.get, if_true, if_false, true_and, ↓ap_loadL, apL_mk, pLoad_agg ag35 sz35, Bool.and_true, rd_own w₀ eb_2, cellsAt, List.getD_cons_zero, List.getD_cons_succ, Nat.zero_add, Nat.reduceAdd, lv_int, allLive, Bool.and_true, hlva]
  refine aOps_call (by rfl) (by rfl) (c_Path w₀ _ va 0 0 3 lvA (hva.mono (hr_h5q2.trans hr_h6q2)) (by decide)) fun x7q1 h7q1 hx7q1 => ?_
  obtain ⟨pv, rfl, hpv, hcpv, hs7⟩ := hx7q1
  rw [hQ] at hpv ⊢
  have hlpv := hpv.live
  have hs_h7q1 : Sub h h7q1 := Sub.trans (by repeat (first | exact Sub.refl _ | assumption | refine Sub.trans_set ?_ (by assumption))) hs7
  have hr_h7q1 : Sub h6q2 h7q1 := Sub.trans (by repeat (first | exact Sub.refl _ | assumption | refine Sub.trans_set ?_ (by assumption))) hs7
  have eb_2 := hs7 k2 _ (by repeat (first | exact AHeap.set_same _ _ _ | assumption | refine (AHeap.set_ne _ _ (by first | assumption | exact Ne.symm (by assumption))).trans ?_))
  have eb_3 := hs7 k3 _ (by repeat (first | exact AHeap.set_same _ _ _ | assumption | refine (AHeap.set_ne _ _ (by first | assumption | exact Ne.symm (by assumption))).trans ?_))
  simp (decide := true) only [aOps_nil, ev, putD, Slots.put, Slots.get, Slots.keep, if_true, if_false, true_and, ↓ap_move, pop_move, ↓ap_extract, pop_extract, pExt_tuple, List.length_cons, List.length_nil, List.getD_cons_zero, List.getD_cons_succ, ↓ap_assign, pop_assign, List.getD_cons_zero, List.getD_cons_succ, Nat.zero_add, Nat.reduceAdd]
  apply hK; clear hK K
  have hov7 := (hov.mono hr_h6q2).mono hr_h7q1
  have hnv7 := hnv.mono hr_h7q1
  obtain ⟨l1, o1, c1, e1⟩ := hov7.open (by simp)
  obtain ⟨l2, o2, c2, e2⟩ := hnv7.open (by simp)
  obtain ⟨l3, o3, c3, e3⟩ := hpv.open (by simp)
  simp only [List.map_cons, List.map_nil, List.length_cons, List.length_nil] at e1 e2 e3
  subst e1 e2 e3
  have p0 := hov7.elem (i := 0) (by simp)
  have p1 := hov7.elem (i := 1) (by simp)
  have p2 := hov7.elem (i := 2) (by simp)
  have n0 := hnv7.elem (i := 0) (by simp)
  have q0 := hpv.at0 (i := 0) (by simp) (by decide)
  have q1 := hpv.at0 (i := 1) (by simp) (by decide)
  simp only [List.map_cons, List.map_nil, List.getD_cons_zero, List.getD_cons_succ, pairC, strC, Nat.zero_mul, Nat.one_mul, Nat.reduceMul, Nat.add_zero] at p0 p1 p2 n0 q0 q1
  trace_state
  -- region 8  law.go:78
  refine awp_rseq [0] (by kernel_rfl) fun K hK => ?_
  try simp only [List.append_eq, List.cons_append, List.nil_append]
  simp (decide := true) only [aOps_nil, ev, absV, absS, putD, Slots.put, Slots.get, Slots.keep, if_true, if_false, true_and, ↓ap_move, pop_move, ↓ap_binOp, pop_binOp, isNilC_int, cond_false, pBinX_int, pI_eql, ↓ag_move, agP, agQ_some, nthDst, gKnown_bool, guardB_bool_true, implies_true, decide_true, condV_true, Bool.and_true, ↓ag_binOp, ↓ap_pick, pop_pick, pPick_bool, ↓ag_len, pop_len, pLen_slice Tryd.underlying30, ↓ag_indexAddrL, agQL_some, agL_mk, pIndexAddr_slice Tryd.underlying30 sz37, ↓ag_loadL, pLoad_agg ag37 sz37, ↓ag_build, ↓pop_buildL, bld37_0_1, evP, List.map_cons, List.map_nil, isNilC_tmp, pBinX_agg, eq37, pLen_slice Tryd.underlying48, pIndexAddr_slice Tryd.underlying48 sz9, pLoad_one ag9, isNilC_str, pBinX_str, pS_eql, ↓ap_assign, pop_assign, decide_true, condV_true, Bool.and_true, pickV_bool, cond_true, cond_false, Nat.zero_add, Nat.reduceAdd, lv_int, lv_str, allLive, Bool.and_true, ↓p0, ↓p1, ↓p2, ↓n0, q0, q1, Int.toNat_zero, Int.toNat_one, toNat_two, Nat.zero_mul, Nat.one_mul, Nat.reduceMul, Nat.add_zero]
  apply hK; clear hK K
  refine awp_ret ?_
  refine retA_ret h (by repeat (first | exact Sub.refl _ | assumption | refine Sub.trans_set ?_ (by assumption))) (resPre_tmp (resPre_nil)) ?_
  simp (decide := true) only [Slots.get, if_true, and_true, resOf_one]
  all_goals first | rfl | exact ⟨rfl, rfl⟩ | (simp (decide := true) only [if_true, if_false, *]; done) | (trace_state; fail)
theorem lv_wide {l : List (ItemP × ItemO)} : ∀ x ∈ l.map itC, x.length = 22 := fun x hx => by obtain ⟨y, _, rfl⟩ := List.mem_map.1 hx; rfl
set_option maxHeartbeats 4000000 in
theorem l_lives3 (w₀ : World) (ht10 : Tab10 w₀) (h H : AHeap) (k1q1 : Nat) (hs_H : Sub h H) (hf_1q1 : h k1q1 = none) (cT : List AVal) (hcT : cT = itemC (namedE [84] 2 0 4 3) namO) (eb_1q1 : H k1q1 = some ⟨cT, 0⟩) :
    Awp Tryd.prog w₀ 114 (dropSeq 3 (bodyOf Tryd.f13)) (retA Tryd.prog w₀ [.tmp 0] (fun r h' => r = .bool true ∧ h' = h)) [(1, .ptr (.own k1q1) 0)] (H) := by
  have hca : cellsAt w₀ H (.own k1q1) 0 22 = cT := by
    rw [cellsAt_own eb_1q1 0 22 (by rw [hcT]; decide), List.drop_zero, hcT]
    rfl
  have hal : allLive cT = true := by rw [hcT]; rfl
  obtain ⟨za0, hza0⟩ : ∃ a, a = itemC (namedE [65] 1 (-1) 0 1) namO := ⟨_, rfl⟩
  obtain ⟨za1, hza1⟩ : ∃ a, a = itemC (namedE [88] 2 0 4 1) namO := ⟨_, rfl⟩
  obtain ⟨za2, hza2⟩ : ∃ a, a = itemC (namedE [71] 2 0 0 1) namO := ⟨_, rfl⟩
  obtain ⟨za3, hza3⟩ : ∃ a, a = itemC (namedE [89] 3 2 4 1) namO := ⟨_, rfl⟩
  obtain ⟨za4, hza4⟩ : ∃ a, a = itemC (namedE [90] 3 2 4 1) namO := ⟨_, rfl⟩
  obtain ⟨za5, hza5⟩ : ∃ a, a = itemC (namedE [70, 73, 76, 76, 69, 82] 2 0 4 1) namO := ⟨_, rfl⟩
  obtain ⟨zb0, hzb0⟩ : ∃ a, a = itemC (namedE [66] 1 (-1) 0 1) namO := ⟨_, rfl⟩
  obtain ⟨zb1, hzb1⟩ : ∃ a, a = itemC (namedE [71] 2 0 0 1) namO := ⟨_, rfl⟩
  obtain ⟨zb2, hzb2⟩ : ∃ a, a = itemC (namedE [90] 3 1 2 1) namO := ⟨_, rfl⟩
  obtain ⟨zb3, hzb3⟩ : ∃ a, a = itemC (namedE [89] 3 1 4 1) namO := ⟨_, rfl⟩
  obtain ⟨zb4, hzb4⟩ : ∃ a, a = itemC (namedE [88] 2 0 0 1) namO := ⟨_, rfl⟩
  obtain ⟨zb5, hzb5⟩ : ∃ a, a = itemC (namedE [89] 3 4 4 1) namO := ⟨_, rfl⟩
  obtain ⟨zb6, hzb6⟩ : ∃ a, a = itemC (namedE [84] 2 0 4 1) namO := ⟨_, rfl⟩
  change Awp _ _ _ (Code.seq _ _) _ _ _
  -- region 3  law.go:73
  refine awp_dseq_I [6, 0, 1, 2, 3, 4, 5, 7, 8, 9, 10, 11] [none, none, some 1, some 2, some 3, some 4, some 5, some 6, some 7, some 8, none, some 9] 11 [2] mixed (by kernel_rfl) (by rfl) fun K hK => ?_
  simp only [permL, List.filterMap_cons, List.filterMap_nil, List.getElem?_cons_zero, List.getElem?_cons_succ]
  refine iOps_read (by rfl) (by kernel_rfl) ?_
  try simp (decide := true) only [aOps_nil, ev, putD, Slots.put, Slots.get, if_true, if_false, true_and, Sub_self, ↓ap_loadL, apL_mk, pLoad_agg ag44 sz44, ↓hca, hal]
  refine iOps_call (by rfl) fun g3q0 hg3q0 => ?_
  have hs_g3q0 : Sub h g3q0 := Sub.trans (by repeat (first | exact Sub.refl _ | assumption | refine Sub.trans_set ?_ (by assumption))) hg3q0
  have hr_g3q0 : Sub H g3q0 := Sub.trans (by repeat (first | exact Sub.refl _ | assumption | refine Sub.trans_set ?_ (by assumption))) hg3q0
  have eb_1q1 := hg3q0 k1q1 _ (by repeat (first | exact AHeap.set_same _ _ _ | assumption | refine (AHeap.set_ne _ _ (by first | assumption | exact Ne.symm (by assumption))).trans ?_))
  refine aOps_callV (V := .agg za0) (by rfl) (by rfl) (by rw [hza0]; exact c_named w₀ _ [65] 1 (-1) 0) ?_
  rw [aOps_nil]
  refine And.intro (by first | exact Sub.refl _ | assumption | exact Sub.set (by assumption)) ?_
  try simp (decide := true) only [putD, Slots.put, if_true, if_false]
  refine iOps_call (by rfl) fun g3q1 hg3q1 => ?_
  have hs_g3q1 : Sub h g3q1 := Sub.trans (by repeat (first | exact Sub.refl _ | assumption | refine Sub.trans_set ?_ (by assumption))) hg3q1
  have hr_g3q1 : Sub g3q0 g3q1 := Sub.trans (by repeat (first | exact Sub.refl _ | assumption | refine Sub.trans_set ?_ (by assumption))) hg3q1
  have eb_1q1 := hg3q1 k1q1 _ (by repeat (first | exact AHeap.set_same _ _ _ | assumption | refine (AHeap.set_ne _ _ (by first | assumption | exact Ne.symm (by assumption))).trans ?_))
  refine aOps_callV (V := .agg za1) (by rfl) (by rfl) (by rw [hza1]; exact c_named w₀ _ [88] 2 0 4) ?_
  rw [aOps_nil]
  refine And.intro (by first | exact Sub.refl _ | assumption | exact Sub.set (by assumption)) ?_
  try simp (decide := true) only [putD, Slots.put, if_true, if_false]
  refine iOps_call (by rfl) fun g3q2 hg3q2 => ?_
  have hs_g3q2 : Sub h g3q2 := Sub.trans (by repeat (first | exact Sub.refl _ | assumption | refine Sub.trans_set ?_ (by assumption))) hg3q2
  have hr_g3q2 : Sub g3q1 g3q2 := Sub.trans (by repeat (first | exact Sub.refl _ | assumption | refine Sub.trans_set ?_ (by assumption))) hg3q2
  have eb_1q1 := hg3q2 k1q1 _ (by repeat (first | exact AHeap.set_same _ _ _ | assumption | refine (AHeap.set_ne _ _ (by first | assumption | exact Ne.symm (by assumption))).trans ?_))
  refine aOps_callV (V := .agg za2) (by rfl) (by rfl) (by rw [hza2]; exact c_named w₀ _ [71] 2 0 0) ?_
  rw [aOps_nil]
  refine And.intro (by first | exact Sub.refl _ | assumption | exact Sub.set (by assumption)) ?_
  try simp (decide := true) only [putD, Slots.put, if_true, if_false]
  refine iOps_call (by rfl) fun g3q3 hg3q3 => ?_
  have hs_g3q3 : Sub h g3q3 := Sub.trans (by repeat (first | exact Sub.refl _ | assumption | refine Sub.trans_set ?_ (by assumption))) hg3q3
  have hr_g3q3 : Sub g3q2 g3q3 := Sub.trans (by repeat (first | exact Sub.refl _ | assumption | refine Sub.trans_set ?_ (by assumption))) hg3q3
  have eb_1q1 := hg3q3 k1q1 _ (by repeat (first | exact AHeap.set_same _ _ _ | assumption | refine (AHeap.set_ne _ _ (by first | assumption | exact Ne.symm (by assumption))).trans ?_))
  refine aOps_callV (V := .agg za3) (by rfl) (by rfl) (by rw [hza3]; exact c_named w₀ _ [89] 3 2 4) ?_
  rw [aOps_nil]
  refine And.intro (by first | exact Sub.refl _ | assumption | exact Sub.set (by assumption)) ?_
  try simp (decide := true) only [putD, Slots.put, if_true, if_false]
  refine iOps_call (by rfl) fun g3q4 hg3q4 => ?_
  have hs_g3q4 : Sub h g3q4 := Sub.trans (by repeat (first | exact Sub.refl _ | assumption | refine Sub.trans_set ?_ (by assumption))) hg3q4
  have hr_g3q4 : Sub g3q3 g3q4 := Sub.trans (by repeat (first | exact Sub.refl _ | assumption | refine Sub.trans_set ?_ (by assumption))) hg3q4
  have eb_1q1 := hg3q4 k1q1 _ (by repeat (first | exact AHeap.set_same _ _ _ | assumption | refine (AHeap.set_ne _ _ (by first | assumption | exact Ne.symm (by assumption))).trans ?_))
  refine aOps_callV (V := .agg za4) (by rfl) (by rfl) (by rw [hza4]; exact c_named w₀ _ [90] 3 2 4) ?_
  rw [aOps_nil]
  refine And.intro (by first | exact Sub.refl _ | assumption | exact Sub.set (by assumption)) ?_
  try simp (decide := true) only [putD, Slots.put, if_true, if_false]
  refine iOps_call (by rfl) fun g3q5 hg3q5 => ?_
  have hs_g3q5 : Sub h g3q5 := Sub.trans (by repeat (first | exact Sub.refl _ | assumption | refine Sub.trans_set ?_ (by assumption))) hg3q5
  have hr_g3q5 : Sub g3q4 g3q5 := Sub.trans (by repeat (first | exact Sub.refl _ | assumption | refine Sub.trans_set ?_ (by assumption))) hg3q5
  have eb_1q1 := hg3q5 k1q1 _ (by repeat (first | exact AHeap.set_same _ _ _ | assumption | refine (AHeap.set_ne _ _ (by first | assumption | exact Ne.symm (by assumption))).trans ?_))
  refine aOps_callV (V := .agg za5) (by rfl) (by rfl) (by rw [hza5]; exact c_named w₀ _ [70, 73, 76, 76, 69, 82] 2 0 4) ?_
  rw [aOps_nil]
  refine And.intro (by first | exact Sub.refl _ | assumption | exact Sub.set (by assumption)) ?_
  try simp (decide := true) only [putD, Slots.put, if_true, if_false]
  refine iOps_call (by rfl) fun g3q7 hg3q7 => ?_
  have hs_g3q7 : Sub h g3q7 := Sub.trans (by repeat (first | exact Sub.refl _ | assumption | refine Sub.trans_set ?_ (by assumption))) hg3q7
  have hr_g3q7 : Sub g3q5 g3q7 := Sub.trans (by repeat (first | exact Sub.refl _ | assumption | refine Sub.trans_set ?_ (by assumption))) hg3q7
  have eb_1q1 := hg3q7 k1q1 _ (by repeat (first | exact AHeap.set_same _ _ _ | assumption | refine (AHeap.set_ne _ _ (by first | assumption | exact Ne.symm (by assumption))).trans ?_))
  refine aOps_buildSlice (cs := (lvA.map itC).flatten) (by subst hza0 hza1 hza2 hza3 hza4 hza5 hcT; kernel_rfl) fun k3q7 hk3q7 => ?_
  have hn_3q7 : g3q7 k3q7 = none := by first | assumption | (simp only [AHeap.set_none] at hk3q7; simp only [hk3q7])
  have hf_3q7 : h k3q7 = none := Sub.none hs_g3q7 hn_3q7
  have ne_3q7_1q1 : k3q7 ≠ k1q1 := AHeap.ne_some hn_3q7 eb_1q1
  rw [aOps_nil]
  refine And.intro (by first | exact Sub.refl _ | assumption | exact Sub.set (by assumption)) ?_
  try simp (decide := true) only [putD, Slots.put, if_false]
  refine iOps_read (by rfl) (by kernel_rfl) ?_
  try simp (decide := true) only [aOps_nil, ev, absV, absS, putD, Slots.put, Slots.get, if_true, if_false, true_and, Sub_self, ↓ap_build, ↓pop_buildL, bld27_0, evP, List.map_cons, List.map_nil, Sc_slice]
  refine iOps_read (by rfl) (by kernel_rfl) ?_
  try simp (decide := true) only [aOps_nil, ev, absV, absS, putD, Slots.put, Slots.get, if_true, if_false, true_and, Sub_self, ↓ap_build, ↓pop_buildL, bld35_0, evP, List.map_cons, List.map_nil]
  refine iOps_alloc (cs := [.nilSlice, .int .i64 0, .int .i64 0]) (by kernel_rfl) fun k3q10 g3q10 hz3q10 hg3q10 eb_3q10 => ?_
  have ne_3q10_3q7 : k3q10 ≠ k3q7 := by first | exact AHeap.ne_some hz3q10 (by repeat (first | exact AHeap.set_same _ _ _ | assumption | refine (AHeap.set_ne _ _ (by first | assumption | exact Ne.symm (by assumption))).trans ?_)) | exact fun e => by have q := hg3q10 k3q7 _ (by repeat (first | exact AHeap.set_same _ _ _ | assumption | refine (AHeap.set_ne _ _ (by first | assumption | exact Ne.symm (by assumption))).trans ?_)); rw [← e, eb_3q10] at q; exact absurd (congrArg (fun b : Option Blk => b.map fun b => b.cells.length) q) (by first | decide | (simp; done))
  have ne_3q10_1q1 : k3q10 ≠ k1q1 := by first | exact AHeap.ne_some hz3q10 (by repeat (first | exact AHeap.set_same _ _ _ | assumption | refine (AHeap.set_ne _ _ (by first | assumption | exact Ne.symm (by assumption))).trans ?_)) | exact fun e => by have q := hg3q10 k1q1 _ (by repeat (first | exact AHeap.set_same _ _ _ | assumption | refine (AHeap.set_ne _ _ (by first | assumption | exact Ne.symm (by assumption))).trans ?_)); rw [← e, eb_3q10] at q; exact absurd (congrArg (fun b : Option Blk => b.map fun b => b.cells.length) q) (by first | decide | (simp; done))
  have hf_3q10 : h k3q10 = none := Sub.none (by repeat (first | exact Sub.refl _ | assumption | refine Sub.trans_set ?_ (by assumption))) hz3q10
  have hs_g3q10 : Sub h g3q10 := Sub.trans (by repeat (first | exact Sub.refl _ | assumption | refine Sub.trans_set ?_ (by assumption))) hg3q10
  have hr_g3q10 : Sub g3q7 g3q10 := Sub.trans (by repeat (first | exact Sub.refl _ | assumption | refine Sub.trans_set ?_ (by assumption))) hg3q10
  have eb_3q7 := hg3q10 k3q7 _ (by repeat (first | exact AHeap.set_same _ _ _ | assumption | refine (AHeap.set_ne _ _ (by first | assumption | exact Ne.symm (by assumption))).trans ?_))
  have eb_1q1 := hg3q10 k1q1 _ (by repeat (first | exact AHeap.set_same _ _ _ | assumption | refine (AHeap.set_ne _ _ (by first | assumption | exact Ne.symm (by assumption))).trans ?_))
  try simp (decide := true) only [putD, Slots.put, if_true, if_false, iOps_zero]
  refine aOps_store (by rfl) (by rfl) (by repeat (first | exact AHeap.set_same _ _ _ | assumption | refine (AHeap.set_ne _ _ (by first | assumption | exact Ne.symm (by assumption))).trans ?_)) sz35 (by rfl) (by rfl) (by first | exact Nat.le_refl _ | decide | (simp; done) | (simp; omega)) (Nat.zero_le _) (by rfl) ?_
  simp only [AVal.cells]
  try simp (decide := true) only [aOps_nil, ev, putD, Slots.get, Slots.keep, if_true, if_false, setAt, List.set_cons_zero, List.set_cons_succ, Nat.zero_add, Nat.reduceAdd]
  apply hK; clear hK K
  -- region 4  law.go:74
  refine awp_rseq [2, 3] (by rfl) fun K hK => ?_
  refine aOps_callV (V := .agg zb0) (by rfl) (by rfl) (by rw [hzb0]; exact c_named w₀ _ [66] 1 (-1) 0) ?_
  refine aOps_callV (V := .agg zb1) (by rfl) (by rfl) (by rw [hzb1]; exact c_named w₀ _ [71] 2 0 0) ?_
  refine aOps_callV (V := .agg zb2) (by rfl) (by rfl) (by rw [hzb2]; exact c_named w₀ _ [90] 3 1 2) ?_
  refine aOps_callV (V := .agg zb3) (by rfl) (by rfl) (by rw [hzb3]; exact c_named w₀ _ [89] 3 1 4) ?_
  refine aOps_callV (V := .agg zb4) (by rfl) (by rfl) (by rw [hzb4]; exact c_named w₀ _ [88] 2 0 0) ?_
  refine aOps_callV (V := .agg zb5) (by rfl) (by rfl) (by rw [hzb5]; exact c_named w₀ _ [89] 3 4 4) ?_
  refine aOps_callV (V := .agg zb6) (by rfl) (by rfl) (by rw [hzb6]; exact c_named w₀ _ [84] 2 0 4) ?_
  refine aOps_buildSlice (cs := (lvB.map itC).flatten) (by subst hzb0 hzb1 hzb2 hzb3 hzb4 hzb5 hzb6; kernel_rfl) fun k4q7 hk4q7 => ?_
  have hn_4q7 : g3q10 k4q7 = none := by first | assumption | (simp only [AHeap.set_none] at hk4q7; simp only [hk4q7])
  have hf_4q7 : h k4q7 = none := Sub.none hs_g3q10 hn_4q7
  have ne_4q7_1q1 : k4q7 ≠ k1q1 := AHeap.ne_some hn_4q7 eb_1q1
  have ne_4q7_3q7 : k4q7 ≠ k3q7 := AHeap.ne_some hn_4q7 eb_3q7
  have ne_4q7_3q10 : k4q7 ≠ k3q10 := AHeap.ne_some hn_4q7 eb_3q10
  simp (decide := true) only [ev, absV, absS, putD, Slots.put, Slots.get, if_true, if_false, true_and, ↓ap_build, ↓pop_buildL, bld27_0, evP, List.map_cons, List.map_nil, Sc_slice, bld35_0]
  refine aOps_alloc ze35 (cs := [.nilSlice, .int .i64 0, .int .i64 0]) (by rfl) fun k4q10 hk4q10 => ?_
  have ne_4q10_4q7 : k4q10 ≠ k4q7 := by simp only [AHeap.set_none] at hk4q10; simp only [hk4q10, ne_eq, not_false_eq_true]
  have hn_4q10 : g3q10 k4q10 = none := by first | assumption | (simp only [AHeap.set_none] at hk4q10; simp only [hk4q10])
  have hf_4q10 : h k4q10 = none := Sub.none hs_g3q10 hn_4q10
  have ne_4q10_1q1 : k4q10 ≠ k1q1 := AHeap.ne_some hn_4q10 eb_1q1
  have ne_4q10_3q7 : k4q10 ≠ k3q7 := AHeap.ne_some hn_4q10 eb_3q7
  have ne_4q10_3q10 : k4q10 ≠ k3q10 := AHeap.ne_some hn_4q10 eb_3q10
  refine aOps_store (by rfl) (by rfl) (by repeat (first | exact AHeap.set_same _ _ _ | assumption | refine (AHeap.set_ne _ _ (by first | assumption | exact Ne.symm (by assumption))).trans ?_)) sz35 (by rfl) (by rfl) (by first | exact Nat.le_refl _ | decide | (simp; done) | (simp; omega)) (Nat.zero_le _) (by rfl) ?_
  simp only [AHeap.set_set, AVal.cells]
  simp (decide := true) only [aOps_nil, ev, putD, Slots.put, Slots.get, Slots.keep, if_true, if_false, setAt, List.set_cons_zero, List.set_cons_succ, Nat.zero_add, Nat.reduceAdd]
  apply hK; clear hK K
  refine Awp.keep [2, 3] ?_
  have lenA : 7 = (lvA.map itC).length := by decide
  have lenB : 7 = (lvB.map itC).length := by decide
  exact l_lives5 w₀ ht10 h _ k3q10 k4q10 (.slice (.own k3q7) 0 7 (.exact 7)) (.slice (.own k4q7) 0 7 (.exact 7)) (by repeat (first | exact Sub.refl _ | assumption | refine Sub.set_both ?_ _ _ | refine Sub.trans_set ?_ (by repeat (first | assumption | refine (AHeap.set_ne _ _ (by first | assumption | exact Ne.symm (by assumption))).trans ?_)))) (by repeat (first | exact AHeap.set_same _ _ _ | assumption | refine (AHeap.set_ne _ _ (by first | assumption | exact Ne.symm (by assumption))).trans ?_)) (by repeat (first | exact AHeap.set_same _ _ _ | assumption | refine (AHeap.set_ne _ _ (by first | assumption | exact Ne.symm (by assumption))).trans ?_)) (by rw [lenA]; exact IsL.own (xs := lvA.map itC) (b := ⟨(lvA.map itC).flatten, 0⟩) (by repeat (first | exact AHeap.set_same _ _ _ | assumption | refine (AHeap.set_ne _ _ (by first | assumption | exact Ne.symm (by assumption))).trans ?_)) lv_wide rfl lvA_live (.exact _) (Nat.le_refl _)) (by rw [lenB]; exact IsL.own (xs := lvB.map itC) (b := ⟨(lvB.map itC).flatten, 0⟩) (by repeat (first | exact AHeap.set_same _ _ _ | assumption | refine (AHeap.set_ne _ _ (by first | assumption | exact Ne.symm (by assumption))).trans ?_)) lv_wide rfl lvB_live (.exact _) (Nat.le_refl _))
set_option maxHeartbeats 1000000 in
theorem c_lives (w₀ : World) (ht10 : Tab10 w₀) (h : AHeap) : ACall Tryd.prog w₀ 13 [] h (fun r h' => r = .bool true ∧ h' = h) := by
  have hnT := itemC_named [84] 2 0 4 1
  have hnT3 := itemC_named [84] 2 0 4 3
  refine acall_intro (n := 114) (rs := [.tmp 0]) Tryd.func13 rfl rfl rfl rfl (Nat.le_of_ble_eq_true rfl) ?_
  simp only [initSlots]
  -- region 0  law.go:70
  refine awp_rseq [] (by rfl) fun K hK => ?_
  simp (decide := true) only [aOps_nil, ev, absV, absS, putD, Slots.put, Slots.keep, if_false, true_and, ↓ap_assign, pop_assign]
  apply hK; clear hK K
  -- region 1  law.go:71
  refine awp_rseq [1] (by rfl) fun K hK => ?_
  refine aOps_callV (V := .agg [.str [84], .int .i64 2, .int .i64 0, .int .u8 4, .int .u8 0, .str [], .int .i64 0, .int .i64 0, .bool false, .bool false, .bool false, .bool false, .bool false, .int .i64 0, .int .i64 0, .int .i64 1, .int .i64 0, .int .i64 (-1), .int .i64 (-1), .int .i64 (-1), .int .i64 (-1), .nilSlice]) (by rfl) (by rfl) (by rw [← hnT]; exact c_named w₀ _ [84] 2 0 4) ?_
  refine aOps_alloc ze44 (cs := [.str [], .int .i64 0, .int .i64 0, .int .u8 0, .int .u8 0, .str [], .int .i64 0, .int .i64 0, .bool false, .bool false, .bool false, .bool false, .bool false, .int .i64 0, .int .i64 0, .int .i64 0, .int .i64 0, .int .i64 0, .int .i64 0, .int .i64 0, .int .i64 0, .nilSlice]) (by rfl) fun k1q1 hk1q1 => ?_
  try have hf_1q1 : h k1q1 = none := by first | assumption | (simp only [AHeap.set_none] at hk1q1; simp only [hk1q1])
  refine aOps_store (by rfl) (by rfl) (by repeat (first | exact AHeap.set_same _ _ _ | assumption | refine (AHeap.set_ne _ _ (by first | assumption | exact Ne.symm (by assumption))).trans ?_)) sz44 (by rfl) (by rfl) (by first | exact Nat.le_refl _ | decide | (simp; done) | (simp; omega)) (Nat.zero_le _) (by rfl) ?_
  simp only [AHeap.set_set, AVal.cells]
  simp (decide := true) only [aOps_nil, ev, putD, Slots.put, Slots.get, Slots.keep, if_true, if_false, setAt, List.set_cons_zero, List.set_cons_succ, Nat.zero_add, Nat.reduceAdd]
  apply hK; clear hK K
  -- region 2  law.go:72
  refine awp_rseq [1] (by rfl) fun K hK => ?_
  simp (decide := true) only [ev, putD, Slots.put, Slots.get, if_true, if_false, true_and, ↓ap_fieldAddr, pop_fieldAddr, fa44_5, Nat.zero_add]
  refine aOps_store (by rfl) (by rfl) (by repeat (first | exact AHeap.set_same _ _ _ | assumption | refine (AHeap.set_ne _ _ (by first | assumption | exact Ne.symm (by assumption))).trans ?_)) sz3 (by rfl) (by rfl) (by first | exact Nat.le_refl _ | decide | (simp; done) | (simp; omega)) (Nat.zero_le _) (by rfl) ?_
  simp only [AHeap.set_set, AVal.cells]
  simp (decide := true) only [aOps_nil, ev, absV, absS, putD, Slots.keep, if_true, if_false, setAt, List.set_cons_zero, List.set_cons_succ]
  apply hK; clear hK K
  refine Awp.keep [1] ?_
  exact l_lives3 w₀ ht10 h _ k1q1 (by repeat (first | exact Sub.refl _ | assumption | refine Sub.set_both ?_ _ _ | refine Sub.trans_set ?_ (by repeat (first | assumption | refine (AHeap.set_ne _ _ (by first | assumption | exact Ne.symm (by assumption))).trans ?_)))) hf_1q1 _ hnT3.symm (by repeat (first | exact AHeap.set_same _ _ _ | assumption | refine (AHeap.set_ne _ _ (by first | assumption | exact Ne.symm (by assumption))).trans ?_))
end Go.Proofs.YtgnebodlkfblcaaDoor

/-
  Rows of the function's own: written at a place, grown.
  Conditions: none.
-/
namespace Go.AM
theorem flat_set1 {α : Type} {es : Nat} (y : α) : ∀ {xs : List (List α)}, (∀ x ∈ xs, x.length = es) → ∀ (i j : Nat), i < xs.length → j < es → xs.flatten.set (i * es + j) y = (xs.set i ((xs.getD i []).set j y)).flatten
  | [], _, i, j, hi, _ => by simp at hi
  | x :: xs, h, 0, j, _, hj => by
    have hx := h x List.mem_cons_self
    rw [List.flatten_cons, Nat.zero_mul, Nat.zero_add, List.set_append_left _ _ (by omega), List.set_cons_zero, List.flatten_cons]
    rfl
  | x :: xs, h, i + 1, j, hi, hj => by
    have hx := h x List.mem_cons_self
    rw [List.flatten_cons, List.set_append_right _ _ (by rw [Nat.succ_mul]; omega), show (i + 1) * es + j - x.length = i * es + j by rw [Nat.succ_mul]; omega, flat_set1 y (fun z hz => h z (List.mem_cons_of_mem _ hz)) i j (by simpa using hi) hj, List.set_cons_succ, List.flatten_cons]
    rfl
theorem flat_setAt {α : Type} {es : Nat} : ∀ (ys : List α) {xs : List (List α)}, (∀ x ∈ xs, x.length = es) → ∀ (i j : Nat), i < xs.length → j + ys.length ≤ es → setAt xs.flatten (i * es + j) ys = (xs.set i (setAt (xs.getD i []) j ys)).flatten
  | [], xs, h, i, j, hi, _ => by
    simp only [setAt]
    congr 1
    rw [List.getD, List.getElem?_eq_getElem hi]
    exact (List.set_getElem_self hi).symm
  | y :: ys, xs, h, i, j, hi, hj => by
    simp only [List.length_cons] at hj
    simp only [setAt]
    have hl : (xs.getD i []).length = es := by
      rw [List.getD, List.getElem?_eq_getElem hi]
      exact h _ (List.getElem_mem hi)
    rw [flat_set1 y h i j hi (by omega), Nat.add_assoc, flat_setAt ys (xs := xs.set i ((xs.getD i []).set j y)) (fun z hz => ?_) i (j + 1) (by rw [List.length_set]; exact hi) (by omega), List.set_set]
    · congr 3
      simp [List.getD, hi]
    · rcases List.mem_or_eq_of_mem_set hz with hz | hz
      · exact h z hz
      · rw [hz, List.length_set]; exact hl
/-- Elements behind a row of the function's own. -/
theorem aOps_appendRow {P : Program} {w₀ : World} {ops rest : List Oper} {s : Slots} {H : AHeap} {K : Slots → AHeap → Prop} {dst : Option Tmp} {ty : TypeId} {pos : String} {af : Array Edge} {ts : Array TypeId} {t u e : TypeId} {d : TypeDesc} {x y : Operand} {v' : AVal} {es by' k : Nat} {c : Cap} {z : Value} {xs ys : List (List AVal)}
    (h0 : ts[0]? = some t) (h1 : ts[1]? = some u) (ht : P.underlying t = some (.slice e)) (hu : P.underlying u = some d) (hd : ∀ k, d ≠ .int k)
    (hs : szOf P e = some es) (hb : byOf P e = some by') (hz : zeOf P e = some z) (hzs : z.cells.size = es) (hes : es ≠ 0)
    (hx : ev s x = .slice (.own k) 0 xs.length c) (hc : c = .exact xs.length ∨ c = .grow es) (hk : H k = some ⟨xs.flatten, 0⟩) (hw : ∀ x ∈ xs, x.length = es) (hal : allLive xs.flatten = true) (hy : ev s y = v') (hv' : IsL w₀ H es v' ys) (hsc : allScal ys.flatten = true) (hne : ys.length ≠ 0)
    (hl : (xs.length + ys.length) * by' ≤ 140737488355328) (hl' : xs.length + ys.length < 4611686018427387904)
    (hkk : ∀ k' H', H' k' = some ⟨(xs ++ ys).flatten, 0⟩ → (H k' = none ∨ k' = k) → (∀ j d, H j = some d → j ≠ k → H' j = some d ∧ j ≠ k') → aOps P w₀ ops rest (putD s dst (.slice (.own k') 0 (xs.length + ys.length) (.grow es))) H' K) :
    aOps P w₀ ops (⟨dst, .call ⟨.builtin .append, [x, y].toArray, ts⟩, ty, pos, af, none⟩ :: rest) s H K := by
  rcases hc with rfl | rfl
  · refine aOps_appendClip (v := .slice (.own k) 0 xs.length (.exact xs.length)) h0 h1 ht hu hd hs hb hz hzs hes hx (IsL.own hk hw rfl hal (.exact _) (Nat.le_refl _)) hy hv' hne hl hl' fun k' hk' _ => ?_
    refine hkk k' _ (AHeap.set_same _ _ _) (.inl hk') fun j d hj _ => ?_
    have hne' : j ≠ k' := fun e => by subst e; rw [hk'] at hj; cases hj
    exact ⟨(AHeap.set_ne _ _ hne').trans hj, hne'⟩
  · have hlen : xs.flatten.length / es = xs.length := by rw [flatten_len hw, Nat.mul_div_cancel _ (Nat.pos_of_ne_zero hes)]
    refine aOps_appendL (zs := xs) (h₀ := H.del k) (b := some ⟨k, xs.flatten⟩) h0 h1 ht hu hd hs hb hz hzs hes (by rw [hx]; simp only [bufV, hlen]) ⟨by simp [AHeap.del], by simp only; rw [flatten_len hw]; exact Nat.mul_mod_left _ _, hal⟩ rfl hw ?_ hy hv' hsc hl hl' fun b' h' o1 o2 o3 => ?_
    · intro j d hj
      by_cases e : j = k
      · subst e
        rw [show bufH (H.del j) (some ⟨j, xs.flatten⟩) = (H.del j).set j ⟨xs.flatten, 0⟩ from rfl, AHeap.set_same] at hj
        rw [← hj]; exact hk
      · rw [show bufH (H.del k) (some ⟨k, xs.flatten⟩) = (H.del k).set k ⟨xs.flatten, 0⟩ from rfl, AHeap.set_ne _ _ e] at hj
        simpa [AHeap.del, e] using hj
    · cases b' with
      | none =>
        exfalso
        have e0 : ((xs ++ ys).flatten).length = 0 := by rw [← o2]; rfl
        have hw2 : ∀ x ∈ xs ++ ys, x.length = es := fun x hx => by
          rcases List.mem_append.1 hx with h | h
          · exact hw x h
          · exact hv'.wide x h
        rw [flatten_len hw2, List.length_append] at e0
        rcases Nat.mul_eq_zero.1 e0 with e | e
        · omega
        · exact hes e
      | some b' =>
        obtain ⟨kb, cells⟩ := b'
        have hcl : cells = (xs ++ ys).flatten := o2
        subst hcl
        have hw2 : ∀ x ∈ xs ++ ys, x.length = es := fun x hx => by
          rcases List.mem_append.1 hx with h | h
          · exact hw x h
          · exact hv'.wide x h
        have hlen2 : (xs ++ ys).flatten.length / es = xs.length + ys.length := by rw [flatten_len hw2, Nat.mul_div_cancel _ (Nat.pos_of_ne_zero hes), List.length_append]
        have hkb : (H.del k) kb = none := o1.1
        have hr := hkk kb h' (o3 _ _ (AHeap.set_same _ _ _)) (by
          by_cases e : kb = k
          · exact .inr e
          · left; simpa [AHeap.del, e] using hkb) (fun j d hj hjk => by
          have hdj : (H.del k) j = some d := by simpa [AHeap.del, hjk] using hj
          have hjb : j ≠ kb := fun e => by subst e; rw [hdj] at hkb; cases hkb
          exact ⟨o3 _ _ ((AHeap.set_ne _ _ hjb).trans hdj), hjb⟩)
        simp only [bufV, hlen2]
        exact hr
end Go.AM

/-
  Contracts: the records that the laws build.
  Conditions: none.
-/
namespace Go.Proofs.YtgnebodlkfblcaaDoor
open Go.AM
open Go.Proofs
open Go.Col
open Go.Prs
open Go.RowKit (Below)
set_option maxRecDepth 100000

/-- An entry, as the laws are handed it. -/
def entC (e : EntryP) : List AVal := [.int .u8 e.level, .int .u8 e.name, .int .u8 e.kind, .int .u8 e.flag]
def EntOk (e : EntryP) : Prop := e.level < 256 ∧ e.name < 256 ∧ e.kind < 256 ∧ e.flag < 256
theorem ent_len {w₀ : World} {h : AHeap} {v : AVal} {es : List EntryP} (hv : IsL w₀ h 4 v (es.map entC)) : ∀ H : AHeap, pLenH Tryd.prog H 23 v = ⟨True, .int .i64 es.length⟩ := by
  have := hv.len Tryd.underlying23
  rwa [List.length_map] at this
theorem ent_open {w₀ : World} {h : AHeap} {v : AVal} {es : List EntryP} (hv : IsL w₀ h 4 v (es.map entC)) (hn : 0 < es.length) : ∃ lc o c, v = .slice lc o es.length c := by
  obtain ⟨lc, o, c, e⟩ := hv.open (fun e => by rw [List.map_eq_nil_iff] at e; subst e; simp at hn)
  rw [List.length_map] at e
  exact ⟨lc, o, c, e⟩
theorem ent_rd {w₀ : World} {h : AHeap} {es : List EntryP} {lc : AM.Loc} {o : Nat} {c : Cap} (hv : IsL w₀ h 4 (.slice lc o es.length c) (es.map entC)) {i : Nat} (hi : i < es.length) {j : Nat} (hj : j < 4) : rd w₀ h lc (o + i * 4 + j) = (entC (es.getD i default)).getD j .dead := by
  have he := hv.at (i := i) (by rw [List.length_map]; exact hi) hj
  rwa [getD_map (ys := es) default hi] at he

/-! ### The search for the group above -/
theorem search_fuel {l : List ItemP} (hg : Prs.Good l) {lv : Int} (hv : 2 ≤ lv) : ∀ (n m : Nat) (p : Int), 0 ≤ p → p < l.length → p < n → p < m → searchE l lv n p = searchE l lv m p
  | 0, m, p, h0, _, h2, _ => by omega
  | n + 1, 0, p, h0, _, _, h2 => by omega
  | n + 1, m + 1, p, h0, h1, h2, h3 => by
    rw [searchE, searchE]
    split
    · rename_i hc
      have hp0 : p ≠ 0 := fun e => by
        subst e
        have := hg.root.1
        unfold lvl at hc
        rw [Int.toNat_zero] at hc
        omega
      have := hg.item p.toNat (by omega) (by omega)
      unfold par at *
      exact search_fuel hg hv n m _ (by omega) (by omega) (by omega) (by omega)
    · rfl
theorem search_step {l : List ItemP} (hg : Prs.Good l) {lv : Int} (hv : 2 ≤ lv) {p : Int} (h0 : 0 ≤ p) (h1 : p < l.length) (hc : lv ≤ (l.getD p.toNat default).level) : searchE l lv l.length p = searchE l lv l.length (l.getD p.toNat default).parent ∧ 0 ≤ (l.getD p.toNat default).parent ∧ (l.getD p.toNat default).parent < p := by
  have hp0 : p ≠ 0 := fun e => by
    subst e
    have := hg.root.1
    rw [Int.toNat_zero] at hc
    omega
  have hi := hg.item p.toNat (by omega) (by omega)
  refine ⟨?_, hi.2.1, by omega⟩
  obtain ⟨n, hn⟩ : ∃ n, l.length = n + 1 := ⟨l.length - 1, by omega⟩
  have e1 : searchE l lv l.length p = searchE l lv n (l.getD p.toNat default).parent := by
    rw [hn, searchE, if_pos (by unfold lvl; exact hc)]
    rfl
  rw [e1]
  exact search_fuel hg hv _ _ _ hi.2.1 (by omega) (by omega) (by omega)
theorem search_stop {l : List ItemP} {lv p : Int} (hl : 0 < l.length) (hc : ¬ lv ≤ (l.getD p.toNat default).level) : searchE l lv l.length p = p := by
  obtain ⟨n, hn⟩ : ∃ n, l.length = n + 1 := ⟨l.length - 1, by omega⟩
  rw [hn, searchE, if_neg (by unfold lvl; exact hc)]
theorem nmE_get (n : Nat) : ([AVal.str [88], .str [89], .str [90], .str [71], .str [70, 73, 76, 76, 69, 82]] : List AVal).getD (n % 5) .dead = .str (nmE n) := by
  unfold nmE filler
  have : n % 5 < 5 := Nat.mod_lt _ (by decide)
  generalize n % 5 = m at *
  match m, this with
  | 0, _ => rfl
  | 1, _ => rfl
  | 2, _ => rfl
  | 3, _ => rfl
  | 4, _ => rfl

/-! ### The first loop -/
theorem grow_snoc : ∀ (x : List EntryP) (l : List ItemP) (e : EntryP), growE (x ++ [e]) l = growE x l ++ [stepE (growE x l) e]
  | [], l, e => rfl
  | y :: x, l, e => by rw [List.cons_append, growE, growE, grow_snoc x]
structure OfG where
  i : Nat
  H : AHeap
  k : Nat
  c : Cap
  l : List (ItemP × ItemO)
structure OfOk (h : AHeap) (ka kb : Nat) (cR : List AVal) (es : List EntryP) (s : OfG) : Prop where
  i : s.i ≤ es.length ∧ s.i ≤ 20
  sub : Sub h s.H
  res : s.H ka = some ⟨[.nilSlice, .int .i64 0], 0⟩
  root : s.H kb = some ⟨cR, 0⟩
  row : s.H s.k = some ⟨(s.l.map itC).flatten, 0⟩
  new : h s.k = none ∧ s.k ≠ ka ∧ s.k ≠ kb
  cap : s.c = .exact (s.l.map itC).length ∨ s.c = .grow 22
  eq : items s.l = growE (es.take s.i) [rootP]
  len : s.l.length = s.i + 1
  oth : ∀ q ∈ s.l, q.2.val = .nilSlice
theorem capOk_of {n : Nat} : ∀ {c : Cap}, (c = .exact n ∨ c = .grow 22) → match c with | .exact m => n ≤ m | .grow g => g = 22 := by
  rintro c (rfl | rfl)
  · exact Nat.le_refl _
  · rfl
theorem row_live {l : List (ItemP × ItemO)} (h : ∀ q ∈ l, q.2.val = .nilSlice) : allLive (l.map itC).flatten = true ∧ allScal (l.map itC).flatten = true := by
  rw [allLive_flatten, allScal_flatten]
  constructor
  · intro x hx
    obtain ⟨q, hq, rfl⟩ := List.mem_map.1 hx
    have := h q hq
    unfold itC itemC
    rw [this]
    rfl
  · intro x hx
    obtain ⟨q, hq, rfl⟩ := List.mem_map.1 hx
    have := h q hq
    unfold itC itemC
    rw [this]
    rfl
theorem of_step {h H H' : AHeap} {ka kb kr k6 k7 k' i : Nat} {cR : List AVal} {es : List EntryP} {c : Cap} {l : List (ItemP × ItemO)} {B1 B2 : Blk} {e : EntryP} (hok : OfOk h ka kb cR es ⟨i, H, kr, c, l⟩) (hi : i < es.length) (h20 : i < 20) (he : e = es.getD i default) (n6 : H k6 = none) (n7 : H k7 = none)
    (g1 : H' k' = some ⟨(l.map itC ++ [itC (stepE (items l) e, namO)]).flatten, 0⟩) (g2 : ((H.set k6 B1).set k7 B2) k' = none ∨ k' = kr) (g3 : ∀ (j : Nat) (d : Blk), ((H.set k6 B1).set k7 B2) j = some d → j ≠ kr → H' j = some d ∧ j ≠ k') :
    OfOk h ka kb cR es ⟨i + 1, H', k', .grow 22, l ++ [(stepE (items l) e, namO)]⟩ := by
  obtain ⟨-, hs, ea, eb, er, ⟨hn, na, nb⟩, -, heq, hlen, hoth⟩ := hok
  simp only at hs ea eb er hn na nb heq hlen hoth
  have g4 : ∀ j d, H j = some d → j ≠ kr → H' j = some d ∧ j ≠ k' := fun j d hj hne => by
    refine g3 j d ?_ hne
    rw [AHeap.set_ne _ _ (AHeap.ne_some n7 hj).symm, AHeap.set_ne _ _ (AHeap.ne_some n6 hj).symm]
    exact hj
  have ga := g4 _ _ ea na.symm
  have gb := g4 _ _ eb nb.symm
  refine ⟨⟨hi, h20⟩, fun j d hj => (g4 j d (hs j d hj) fun e => by subst e; rw [hn] at hj; cases hj).1, ga.1, gb.1, ?_, ⟨?_, ga.2.symm, gb.2.symm⟩, .inr rfl, ?_, ?_, ?_⟩
  · rw [List.map_append]; exact g1
  · rcases g2 with g | g
    · simp only [AHeap.set_none] at g
      exact Sub.none hs (by simp only [g])
    · rw [g]; exact hn
  · have ht : es.take (i + 1) = es.take i ++ [e] := by
      rw [List.take_add_one, he, List.getD, List.getElem?_eq_getElem hi]
      rfl
    rw [ht, grow_snoc, ← heq]
    unfold items
    rw [List.map_append]
    rfl
  · rw [List.length_append, hlen]; rfl
  · intro q hq
    rcases List.mem_append.1 hq with h | h
    · exact hoth q h
    · rw [List.mem_singleton.1 h]; rfl
theorem root_good : Prs.Good [rootP] := ⟨by simp, ⟨rfl, rfl⟩, fun i h0 h1 => by simp at h1; omega⟩

set_option maxHeartbeats 4000000 in
theorem l_Of1 (w₀ : World) (h : AHeap) (ka kb : Nat) (v : AVal) (es : List EntryP) (R : AVal → AHeap → Prop) (hv : IsL w₀ h 4 v (es.map entC)) (hes : ∀ e ∈ es, EntOk e) (hl : es.length ≤ 9223372036854775807) (H0 : AHeap) (k0 : Nat) (hok : OfOk h ka kb (itemC rootP namO) es ⟨0, H0, k0, .exact 1, [(rootP, namO)]⟩)
    (hrest : ∀ s : OfG, OfOk h ka kb (itemC rootP namO) es s → items s.l = rawE es → Awp Tryd.prog w₀ 163 (dropSeq 4 (bodyOf Tryd.f8)) (retA Tryd.prog w₀ [.cell 2 27] (R)) [(0, v), (2, .ptr (.own ka) 0), (4, .slice (.own s.k) 0 s.l.length s.c)] (s.H)) :
    Awp Tryd.prog w₀ 163 (dropSeq 3 (bodyOf Tryd.f8)) (retA Tryd.prog w₀ [.cell 2 27] (R)) [(0, v), (2, .ptr (.own ka) 0), (3, .ptr (.own kb) 0), (4, .slice (.own k0) 0 1 (.exact 1))] (H0) := by
  have hlv := hv.live
  have nv := ent_len hv
  obtain ⟨cR, hcR⟩ : ∃ cR, cR = itemC rootP namO := ⟨_, rfl⟩
  rw [← hcR] at hok hrest
  change Awp _ _ _ (Code.seq _ _) _ _ _
  refine awp_seq ?_
  -- region 3  law.go:24
  refine awp_rseq [0, 2, 3, 4, 5] (by rfl) fun K hK => ?_
  simp (decide := true) only [aOps_nil, ev, absV, absS, putD, Slots.put, Slots.keep, if_true, if_false, true_and, ↓ap_assign, pop_assign]
  apply hK; clear hK K
  refine awp_block ?_
  refine awp_loopG [0, 2, 3, 4, 5] (fun s : OfG => [(0, v), (2, .ptr (.own ka) 0), (3, .ptr (.own kb) 0), (4, .slice (.own s.k) 0 s.l.length s.c), (5, .int .i64 s.i)]) (fun s : OfG => s.H) (fun s : OfG => OfOk h ka kb cR es s) (fun s : OfG => 20 - s.i) ⟨0, H0, k0, .exact 1, [(rootP, namO)]⟩ (by rfl) (Sub.refl _) hok ?_
  rintro ⟨i, H, kr, c, l⟩ ⟨⟨hi1, hi2⟩, hs_H, eb_a, eb_b, eb_r, ⟨hnr, ne_r_a, ne_r_b⟩, hcap, heq, hlen, hoth⟩
  simp only at hi1 hi2 hs_H eb_a eb_b eb_r hnr ne_r_a ne_r_b hcap heq hlen hoth ⊢
  have hin := items_len l
  obtain ⟨hal, hsc⟩ := row_live hoth
  have hwd := it_wide (l := l)
  have hLr : IsL w₀ H 22 (.slice (.own kr) 0 l.length c) (l.map itC) := by
    have := IsL.own (w₀ := w₀) (xs := l.map itC) eb_r hwd rfl hal c (capOk_of hcap)
    rwa [List.length_map] at this
  have nl := it_len hLr
  have hcaR : cellsAt w₀ H (.own kb) 0 22 = [.str [82], .int .i64 1, .int .i64 (-1), .int .u8 0, .int .u8 0, .str [], .int .i64 0, .int .i64 0, .bool false, .bool false, .bool false, .bool false, .bool false, .int .i64 0, .int .i64 0, .int .i64 1, .int .i64 0, .int .i64 (-1), .int .i64 (-1), .int .i64 (-1), .int .i64 (-1), .nilSlice] := by
    rw [cellsAt_own eb_b 0 22 (by rw [hcR]; decide), List.drop_zero, hcR]
    rfl
  refine awp_seq ?_
  -- region 4  law.go:24
  refine awp_rseq [0, 2, 3, 4, 5, 20] (by rfl) fun K hK => ?_
  simp (decide := true) only [aOps_nil, ev, absV, absS, putD, Slots.put, Slots.get, Slots.keep, if_true, if_false, true_and, ↓ap_move, pop_move, ↓ap_len, pop_len, ↓ap_binOp, pop_binOp, isNilC_tmp, cond_false, pBinX_int, pI_lss, ↓ag_move, agP, agQ_some, nthDst, gKnown_bool, guardB_bool_true, implies_true, ↓ag_binOp, isNilC_int, cv_binl, cp_binl, ↓ap_pick, pop_pick, pPick_bool, pickV_cond_l, pickV_and, nv]
  apply hK; clear hK K
  refine awp_cond (b := _) rfl (fun hb1 => ?_) (fun hb1 => ?_)
  · try simp only [decide_eq_true_eq, Bool.and_eq_true] at hb1
    have hi' : i < es.length := by omega
    obtain ⟨lce, oe, ce, rfl⟩ := ent_open hv (by omega)
    have hgd : Prs.Good (items l) := by rw [heq]; exact grow_good _ root_good
    obtain ⟨e, he⟩ : ∃ e, e = es.getD i default := ⟨_, rfl⟩
    have hek : EntOk e := hes e (by rw [he, List.getD, List.getElem?_eq_getElem hi']; exact List.getElem_mem hi')
    obtain ⟨b1, b2, b3, b4⟩ := hek
    have hm4 : Int.tmod (e.level : Int) 4 = ((e.level % 4 : Nat) : Int) := by rw [Int.tmod_eq_emod_of_nonneg (by omega)]; exact (Int.natCast_emod e.level 4).symm
    have hm5 : Int.tmod (e.name : Int) 5 = ((e.name % 5 : Nat) : Int) := by rw [Int.tmod_eq_emod_of_nonneg (by omega)]; exact (Int.natCast_emod e.name 5).symm
    have hm12 : Int.tmod (e.flag : Int) 12 = ((e.flag % 12 : Nat) : Int) := by rw [Int.tmod_eq_emod_of_nonneg (by omega)]; exact (Int.natCast_emod e.flag 12).symm
    obtain ⟨lv, hlv2⟩ : ∃ lv : Int, lv = 2 + ((e.level % 4 : Nat) : Int) := ⟨_, rfl⟩
    have hlvb : 2 ≤ lv ∧ lv ≤ 5 := by omega
    refine awp_skip ?_
    change Awp _ _ _ _ _ _ _
    refine awp_seq ?_
    refine awp_block ?_
    -- region 6  law.go:25
    refine awp_rseq [0, 2, 3, 4, 5, 6] (by rfl) fun K hK => ?_
    simp (decide := true) only [ev, putD, Slots.put, Slots.get, if_true, if_false, true_and, ↓ap_loadL, apL_mk, pLoad_agg ag44 sz44, lv_bool, lv_int, lv_str, lv_nilSlice, allLive, Bool.and_true, ↓hcaR]
    refine aOps_alloc ze44 (cs := [.str [], .int .i64 0, .int .i64 0, .int .u8 0, .int .u8 0, .str [], .int .i64 0, .int .i64 0, .bool false, .bool false, .bool false, .bool false, .bool false, .int .i64 0, .int .i64 0, .int .i64 0, .int .i64 0, .int .i64 0, .int .i64 0, .int .i64 0, .int .i64 0, .nilSlice]) (by rfl) fun k6q1 hk6q1 => ?_
    have hn_6q1 : H k6q1 = none := by first | assumption | (simp only [AHeap.set_none] at hk6q1; simp only [hk6q1])
    have hf_6q1 : h k6q1 = none := Sub.none hs_H hn_6q1
    have ne_6q1_a : k6q1 ≠ ka := AHeap.ne_some hn_6q1 eb_a
    have ne_6q1_b : k6q1 ≠ kb := AHeap.ne_some hn_6q1 eb_b
    have ne_6q1_r : k6q1 ≠ kr := AHeap.ne_some hn_6q1 eb_r
    refine aOps_store (by rfl) (by rfl) (by repeat (first | exact AHeap.set_same _ _ _ | assumption | refine (AHeap.set_ne _ _ (by first | assumption | exact Ne.symm (by assumption))).trans ?_)) sz44 (by rfl) (by rfl) (by first | exact Nat.le_refl _ | decide | (simp; done) | (simp; omega)) (Nat.zero_le _) (by first | rfl | (simp (decide := true) only [ev, putD, Slots.put, Slots.get, if_true, if_false, AVal.cells, allScal, Bool.and_true, Bool.true_and, sc_int, sc_str, sc_bool])) ?_
    simp only [AHeap.set_set, AVal.cells]
    simp (decide := true) only [aOps_nil, ev, putD, Slots.put, Slots.get, Slots.keep, if_true, if_false, setAt, List.set_cons_zero, List.set_cons_succ, Nat.zero_add, Nat.reduceAdd]
    apply hK; clear hK K
    have er : ∀ X, (rd w₀ (H.set k6q1 X) lce (oe + i * 4 + 0) = .int .u8 e.level ∧ rd w₀ (H.set k6q1 X) lce (oe + i * 4 + 3) = .int .u8 e.flag) ∧ ∀ Y k', (H.set k6q1 X) k' = none → rd w₀ ((H.set k6q1 X).set k' Y) lce (oe + i * 4 + 1) = .int .u8 e.name := by
      intro X
      have hX : Sub h (H.set k6q1 X) := Sub.set_off hs_H hf_6q1 X
      have q0 := ent_rd (hv.mono hX) hi' (j := 0) (by decide)
      have q3 := ent_rd (hv.mono hX) hi' (j := 3) (by decide)
      rw [← he] at q0 q3
      refine ⟨⟨q0, q3⟩, fun Y k' hk' => ?_⟩
      have hY : Sub (H.set k6q1 X) ((H.set k6q1 X).set k' Y) := Sub.set hk'
      have q1 := ent_rd (hv.mono (hX.trans hY)) hi' (j := 1) (by decide) (w₀ := w₀)
      rw [← he] at q1
      exact q1
    have er0 := fun X => (er X).1.1
    have er3 := fun X => (er X).1.2
    -- region 7  law.go:26
    refine awp_rseq [0, 2, 3, 4, 5, 6] (by rfl) fun K hK => ?_
    simp (decide := true) only [ev, absV, absS, putD, Slots.put, Slots.get, if_true, if_false, true_and, ↓ap_move, pop_move, ↓ap_indexAddrL, apL_mk, pIndexAddr_slice Tryd.underlying23 sz58, ↓ap_fieldAddr, pop_fieldAddr, fa58_0, ↓ap_loadL, pLoad_one ag5, ↓ap_binOp, pop_binOp, isNilC_int, cond_false, pBinX_int, pI_rem, ↓ap_convert _ _ _ (es_int Tryd.underlying5 Tryd.underlying3), pop_convert, pConv_int Tryd.underlying5 Tryd.underlying3, isNilC_tmp, pI_add, fa44_1, Nat.zero_add, lv_int, er0, hm4, Int.toNat_natCast]
    try simp (disch := omega) only [wrap_i64]
    repeat (with_reducible refine And.intro ?_ ?_; · first | trivial | omega | (intro hg; simp only [Bool.and_eq_true, Bool.or_eq_true, Bool.not_eq_true', Bool.and_eq_false_iff, Bool.or_eq_false_iff, Bool.not_eq_false', decide_eq_true_eq, decide_eq_false_iff_not, eqNil] at hg; omega) )
    refine aOps_store (by rfl) (by rfl) (by repeat (first | exact AHeap.set_same _ _ _ | assumption | refine (AHeap.set_ne _ _ (by first | assumption | exact Ne.symm (by assumption))).trans ?_)) sz3 (by rfl) (by rfl) (by first | exact Nat.le_refl _ | decide | (simp; done) | (simp; omega)) (Nat.zero_le _) (by first | rfl | (simp (decide := true) only [ev, putD, Slots.put, Slots.get, if_true, if_false, AVal.cells, allScal, Bool.and_true, Bool.true_and, sc_int, sc_str, sc_bool])) ?_
    simp only [AHeap.set_set, AVal.cells]
    simp (decide := true) only [aOps_nil, ev, putD, Slots.get, Slots.keep, if_true, if_false, setAt, List.set_cons_zero, List.set_cons_succ]
    apply hK; clear hK K
    rw [← hlv2]
    -- region 8  law.go:27
    refine awp_rseq [0, 2, 3, 4, 5, 6] (by rfl) fun K hK => ?_
    refine aOps_buildSlice (cs := [.str [88], .str [89], .str [90], .str [71], .str [70, 73, 76, 76, 69, 82]]) (by kernel_rfl) fun k8q0 hk8q0 => ?_
    have ne_8q0_6q1 : k8q0 ≠ k6q1 := by simp only [AHeap.set_none] at hk8q0; simp only [hk8q0, ne_eq, not_false_eq_true]
    have hn_8q0 : H k8q0 = none := by first | assumption | (simp only [AHeap.set_none] at hk8q0; simp only [hk8q0])
    have hf_8q0 : h k8q0 = none := Sub.none hs_H hn_8q0
    have ne_8q0_a : k8q0 ≠ ka := AHeap.ne_some hn_8q0 eb_a
    have ne_8q0_b : k8q0 ≠ kb := AHeap.ne_some hn_8q0 eb_b
    have ne_8q0_r : k8q0 ≠ kr := AHeap.ne_some hn_8q0 eb_r
    simp (decide := true) only [ev, absV, absS, putD, Slots.put, Slots.get, if_true, if_false, true_and, ↓ap_move, pop_move, ↓ap_indexAddrL, apL_mk, pIndexAddr_slice Tryd.underlying23 sz58, ↓ap_fieldAddr, pop_fieldAddr, fa58_1, ↓ap_loadL, pLoad_one ag5, ↓ap_binOp, pop_binOp, isNilC_int, cond_false, pBinX_int, pI_rem, pIndexAddr_slice Tryd.underlying48 sz9, pLoad_one ag9, fa44_0, rd_any, Nat.zero_add, lv_int, lv_str, (er _).2 _ _ hk8q0, hm5, Nat.mul_one, nmE_get, Int.toNat_natCast]
    repeat (with_reducible refine And.intro ?_ ?_; · first | trivial | omega | (intro hg; simp only [Bool.and_eq_true, Bool.or_eq_true, Bool.not_eq_true', Bool.and_eq_false_iff, Bool.or_eq_false_iff, Bool.not_eq_false', decide_eq_true_eq, decide_eq_false_iff_not, eqNil] at hg; omega) )
    refine aOps_store (by rfl) (by rfl) (by repeat (first | exact AHeap.set_same _ _ _ | assumption | refine (AHeap.set_ne _ _ (by first | assumption | exact Ne.symm (by assumption))).trans ?_)) sz9 (by rfl) (by rfl) (by first | exact Nat.le_refl _ | decide | (simp; done) | (simp; omega)) (Nat.zero_le _) (by first | rfl | (simp (decide := true) only [ev, putD, Slots.put, Slots.get, if_true, if_false, AVal.cells, allScal, Bool.and_true, Bool.true_and, sc_int, sc_str, sc_bool])) ?_
    simp only [AVal.cells]
    simp (decide := true) only [aOps_nil, ev, putD, Slots.get, Slots.keep, if_true, if_false, setAt, List.set_cons_zero]
    apply hK; clear hK K
    -- region 9  law.go:28
    refine awp_rseq [0, 2, 3, 4, 5, 6] (by rfl) fun K hK => ?_
    simp (decide := true) only [ev, absV, absS, putD, Slots.put, Slots.get, if_true, if_false, true_and, ↓ap_move, pop_move, ↓ap_len, pop_len, pLen_slice Tryd.underlying25, ↓ap_binOp, pop_binOp, isNilC_int, cond_false, pBinX_int, pI_sub, ↓ap_fieldAddr, pop_fieldAddr, fa44_2, Nat.zero_add]
    try simp (disch := omega) only [wrap_i64]
    refine aOps_store (by rfl) (by rfl) (by repeat (first | exact AHeap.set_same _ _ _ | assumption | refine (AHeap.set_ne _ _ (by first | assumption | exact Ne.symm (by assumption))).trans ?_)) sz3 (by rfl) (by rfl) (by first | exact Nat.le_refl _ | decide | (simp; done) | (simp; omega)) (Nat.zero_le _) (by first | rfl | (simp (decide := true) only [ev, putD, Slots.put, Slots.get, if_true, if_false, AVal.cells, allScal, Bool.and_true, Bool.true_and, sc_int, sc_str, sc_bool])) ?_
    simp only [AHeap.set_set, AVal.cells]
    simp (decide := true) only [aOps_nil, ev, putD, Slots.get, Slots.keep, if_true, if_false, setAt, List.set_cons_zero, List.set_cons_succ]
    apply hK; clear hK K
    refine awp_seq ?_
    refine awp_block ?_
    refine awp_loopG [0, 2, 3, 4, 5, 6] (fun p : Int => [(0, .slice lce oe es.length ce), (2, .ptr (.own ka) 0), (3, .ptr (.own kb) 0), (4, .slice (.own kr) 0 l.length c), (5, .int .i64 i), (6, .ptr (.own k6q1) 0)]) (fun p : Int => H.set k6q1 ⟨[.str (nmE e.name), .int .i64 lv, .int .i64 p, .int .u8 0, .int .u8 0, .str [], .int .i64 0, .int .i64 0, .bool false, .bool false, .bool false, .bool false, .bool false, .int .i64 0, .int .i64 0, .int .i64 1, .int .i64 0, .int .i64 (-1), .int .i64 (-1), .int .i64 (-1), .int .i64 (-1), .nilSlice], 0⟩) (fun p : Int => 0 ≤ p ∧ p < l.length ∧ searchE (items l) lv (items l).length p = searchE (items l) lv (items l).length ((l.length : Int) - 1)) (fun p : Int => p.toNat) ((l.length : Int) - 1) (by rfl) (by repeat (first | exact Sub.refl _ | assumption | refine Sub.set_both ?_ _ _ | refine Sub.trans_set ?_ (by repeat (first | assumption | refine (AHeap.set_ne _ _ (by first | assumption | exact Ne.symm (by assumption))).trans ?_)))) ⟨by omega, by omega, rfl⟩ ?_
    rintro p ⟨hp0, hp1, hps⟩
    have hrl := it_rd hLr (i := p.toNat) (by omega) (j := 1) (by decide)
    have hrp := it_rd hLr (i := p.toNat) (by omega) (j := 2) (by decide)
    rw [Nat.zero_add] at hrl hrp
    obtain ⟨⟨x, q⟩, hx⟩ : ∃ a, l.getD p.toNat default = a := ⟨_, rfl⟩
    rw [hx] at hrl hrp
    have hrl' : (l.map itC).flatten.getD (p.toNat * 22 + 1) .dead = .int .i64 x.level := (rd_own w₀ eb_r _).symm.trans hrl
    have hrp' : (l.map itC).flatten.getD (p.toNat * 22 + 2) .dead = .int .i64 x.parent := (rd_own w₀ eb_r _).symm.trans hrp
    have hxi : (items l).getD p.toNat default = x := by rw [items_getD, hx]
    refine awp_seq ?_
    -- region 10  law.go:29
    refine awp_dseq_all [0, 2, 3, 4, 5, 6, 55] mixed (by kernel_rfl) (by rfl) (by rfl) fun K hK => ?_
    simp (decide := true) only [aOps_nil, ev, putD, Slots.put, Slots.get, Slots.keep, if_true, if_false, true_and, ↓ap_move, pop_move, ↓ap_fieldAddr, pop_fieldAddr, fa44_2, ↓ap_loadL, apL_mk, pLoad_one ag3, ↓ap_indexAddrL, pIndexAddr_slice Tryd.underlying25 sz44, fa44_1, ↓ap_binOp, pop_binOp, isNilC_tmp, cond_false, pBinX_int, pI_geq, rd_ne', ne_eq, not_false_eq_true, ne_6q1_r.symm, rd_own w₀ eb_r, rd_any, List.getD_cons_zero, List.getD_cons_succ, Nat.zero_add, lv_int, hrl']
    repeat (with_reducible refine And.intro ?_ ?_; · first | trivial | omega | (intro hg; simp only [Bool.and_eq_true, Bool.or_eq_true, Bool.not_eq_true', Bool.and_eq_false_iff, Bool.or_eq_false_iff, Bool.not_eq_false', decide_eq_true_eq, decide_eq_false_iff_not, eqNil] at hg; omega) )
    apply hK; clear hK K
    refine awp_cond (b := _) rfl (fun hb2 => ?_) (fun hb2 => ?_)
    · try simp only [decide_eq_true_eq] at hb2
      obtain ⟨s1, s2, s3⟩ := search_step hgd hlvb.1 hp0 (by rw [hin]; exact hp1) (by rw [hxi]; exact hb2)
      rw [hxi] at s1 s2 s3
      refine awp_skip ?_
      change Awp _ _ _ _ _ _ _
      refine awp_block ?_
      -- region 11  law.go:30
      refine awp_r [0, 2, 3, 4, 5, 6] (by rfl) ?_
      simp (decide := true) only [ev, putD, Slots.put, Slots.get, if_true, if_false, true_and, ↓ap_move, pop_move, ↓ap_fieldAddr, pop_fieldAddr, fa44_2, ↓ap_loadL, apL_mk, pLoad_one ag3, ↓ap_indexAddrL, pIndexAddr_slice Tryd.underlying25 sz44, rd_ne', ne_eq, not_false_eq_true, ne_6q1_r.symm, rd_own w₀ eb_r, rd_any, List.getD_cons_zero, List.getD_cons_succ, Nat.zero_add, lv_int, hrp']
      repeat (with_reducible refine And.intro ?_ ?_; · first | trivial | omega | (intro hg; simp only [Bool.and_eq_true, Bool.or_eq_true, Bool.not_eq_true', Bool.and_eq_false_iff, Bool.or_eq_false_iff, Bool.not_eq_false', decide_eq_true_eq, decide_eq_false_iff_not, eqNil] at hg; omega) )
      refine aOps_store (by rfl) (by rfl) (by repeat (first | exact AHeap.set_same _ _ _ | assumption | refine (AHeap.set_ne _ _ (by first | assumption | exact Ne.symm (by assumption))).trans ?_)) sz3 (by rfl) (by rfl) (by first | exact Nat.le_refl _ | decide | (simp; done) | (simp; omega)) (Nat.zero_le _) (by first | rfl | (simp (decide := true) only [ev, putD, Slots.put, Slots.get, if_true, if_false, AVal.cells, allScal, Bool.and_true, Bool.true_and, sc_int, sc_str, sc_bool])) ?_
      simp only [AHeap.set_set, AVal.cells]
      simp (decide := true) only [aOps_nil, ev, putD, Slots.get, Slots.keep, if_true, if_false, setAt, List.set_cons_zero, List.set_cons_succ]
      try simp only [thenA_normal, inBlockA_normal]
      exact ⟨x.parent, rfl, Sub.refl _, ⟨s2, by omega, by rw [← s1]; exact hps⟩, by omega⟩
    · try simp only [decide_eq_false_iff_not] at hb2
      have hT := search_stop (l := items l) (lv := lv) (p := p) (by rw [hin]; omega) (by rw [hxi]; exact hb2)
      rw [hT, hin] at hps
      have hpl : plainE (items l) e = ⟨nmE e.name, lv, p, 0, 1, -1, -1⟩ := by
        unfold plainE rootP
        rw [hin, ← hlv2, ← hps]
      refine awp_exit ?_
      change Awp _ _ _ _ _ _ _
      refine awp_seq ?_
      -- region 12  law.go:32
      refine awp_rseq [0, 2, 3, 4, 5, 6, 68] (by rfl) fun K hK => ?_
      simp (decide := true) only [aOps_nil, ev, absV, absS, putD, Slots.put, Slots.get, Slots.keep, if_true, if_false, true_and, ↓ap_move, pop_move, ↓ap_indexAddrL, apL_mk, pIndexAddr_slice Tryd.underlying23 sz58, ↓ap_fieldAddr, pop_fieldAddr, fa58_3, ↓ap_loadL, pLoad_one ag5, ↓ap_binOp, pop_binOp, isNilC_int, cond_false, pBinX_int, pI_rem, lv_int, er3, hm12, Int.toNat_natCast]
      repeat (with_reducible refine And.intro ?_ ?_; · first | trivial | omega | (intro hg; simp only [Bool.and_eq_true, Bool.or_eq_true, Bool.not_eq_true', Bool.and_eq_false_iff, Bool.or_eq_false_iff, Bool.not_eq_false', decide_eq_true_eq, decide_eq_false_iff_not, eqNil] at hg; omega) )
      apply hK; clear hK K
      refine awp_block ?_
      -- region 13  law.go:33
      refine awp_rseq [0, 2, 3, 4, 5, 6, 68, 69] (by rfl) fun K hK => ?_
      simp (decide := true) only [aOps_nil, ev, absV, absS, putD, Slots.put, Slots.get, Slots.keep, if_true, if_false, true_and, ↓ap_binOp, pop_binOp, isNilC_int, cond_false, pBinX_int, pI_eql, ↓ap_assign, pop_assign]
      apply hK; clear hK K
      refine awp_cond (b := _) rfl (fun hb3 => ?_) (fun hb3 => ?_)
      · try simp only [decide_eq_true_eq] at hb3
        have hst : stepE (items l) e = ⟨nmE e.name, lv, p, 0, 3, -1, -1⟩ := by
          unfold stepE
          rw [show e.flag % 12 = 0 by omega, hpl]
          rfl
        -- region 14  law.go:34
        refine awp_r [0, 2, 3, 4, 5, 6] (by rfl) ?_
        simp (decide := true) only [ev, putD, Slots.put, Slots.get, if_true, if_false, true_and, ↓ap_fieldAddr, pop_fieldAddr, fa44_5, Nat.zero_add]
        refine aOps_store (by rfl) (by rfl) (by repeat (first | exact AHeap.set_same _ _ _ | assumption | refine (AHeap.set_ne _ _ (by first | assumption | exact Ne.symm (by assumption))).trans ?_)) sz3 (by rfl) (by rfl) (by first | exact Nat.le_refl _ | decide | (simp; done) | (simp; omega)) (Nat.zero_le _) (by first | rfl | (simp (decide := true) only [ev, putD, Slots.put, Slots.get, if_true, if_false, AVal.cells, allScal, Bool.and_true, Bool.true_and, sc_int, sc_str, sc_bool])) ?_
        simp only [AHeap.set_set, AVal.cells]
        simp (decide := true) only [aOps_nil, ev, absV, absS, putD, Slots.keep, if_true, if_false, setAt, List.set_cons_zero, List.set_cons_succ]
        change Awp _ _ _ _ _ _ _
        -- region 24  law.go:46
        refine awp_r [0, 2, 3, 4, 5] (by rfl) ?_
        simp (decide := true) only [ev, putD, Slots.put, Slots.get, if_true, if_false, true_and, ↓ap_move, pop_move, ↓ap_loadL, apL_mk, pLoad_agg ag44 sz44, rd_any, cellsAt, List.getD_cons_zero, List.getD_cons_succ, Nat.zero_add, Nat.reduceAdd, lv_bool, lv_int, lv_str, lv_nilSlice, allLive, Bool.and_true]
        refine aOps_buildSlice (cs := itC (stepE (items l) e, namO)) (by rw [hst]; kernel_rfl) fun k24q2 hk24q2 => ?_
        have hn_24q2 : H k24q2 = none := by (simp only [AHeap.set_none] at hk24q2; simp only [hk24q2])
        have ne_24q2_6q1 : k24q2 ≠ k6q1 := by (simp only [AHeap.set_none] at hk24q2; simp only [hk24q2, ne_eq, not_false_eq_true])
        have ne_24q2_r : k24q2 ≠ kr := AHeap.ne_some hn_24q2 eb_r
        refine aOps_appendRow (es := 22) (k := kr) (c := c) (xs := l.map itC) (ys := [itC (stepE (items l) e, namO)]) (by rfl) (by rfl) Tryd.underlying25 Tryd.underlying25 (fun k e => by cases e) sz44 by44 ze44 (by rfl) (by decide) (by rw [List.length_map]; rfl) hcap (by repeat (first | exact AHeap.set_same _ _ _ | assumption | refine (AHeap.set_ne _ _ (by first | assumption | exact Ne.symm (by assumption))).trans ?_)) hwd hal (by rfl) (IsL.own (b := ⟨itC (stepE (items l) e, namO), 0⟩) (by repeat (first | exact AHeap.set_same _ _ _ | assumption | refine (AHeap.set_ne _ _ (by first | assumption | exact Ne.symm (by assumption))).trans ?_)) (by intro x hx; rw [List.mem_singleton.1 hx]; rfl) (by simp) (by rw [hst]; rfl) (.exact 1) (Nat.le_refl _)) (by rw [hst]; rfl) (by simp) (by simp; omega) (by simp; omega) fun k24 h24 g1 g2 g3 => ?_
        simp (decide := true) only [aOps_nil, ev, putD, Slots.put, Slots.get, Slots.keep, if_true, if_false, true_and, ↓ap_assign, pop_assign]
        change Awp _ _ _ _ _ _ _
        -- region 5  law.go:24
        refine awp_r [0, 2, 3, 4, 5] (by rfl) ?_
        simp (decide := true) only [aOps_nil, ev, absV, absS, putD, Slots.put, Slots.get, Slots.keep, if_true, if_false, true_and, ↓ap_move, pop_move, ↓ap_binOp, pop_binOp, isNilC_int, cond_false, pBinX_int, pI_add, ↓ap_assign, pop_assign]
        try simp (disch := omega) only [wrap_i64]
        try simp only [thenA_normal]
        refine ⟨⟨i + 1, h24, k24, .grow 22, l ++ [(stepE (items l) e, namO)]⟩, ?_, Sub.refl _, of_step ⟨⟨hi1, hi2⟩, hs_H, eb_a, eb_b, eb_r, ⟨hnr, ne_r_a, ne_r_b⟩, hcap, heq, hlen, hoth⟩ hi' (by omega) he hn_6q1 hn_24q2 g1 g2 g3, by simp only; omega⟩
        simp only [List.length_map, List.length_append]
        rfl
      · try simp only [decide_eq_false_iff_not] at hb3
        -- region 15  law.go:35
        refine awp_rseq [0, 2, 3, 4, 5, 6, 68, 72] (by rfl) fun K hK => ?_
        simp (decide := true) only [aOps_nil, ev, absV, absS, putD, Slots.put, Slots.get, Slots.keep, if_true, if_false, true_and, ↓ap_binOp, pop_binOp, isNilC_int, cond_false, pBinX_int, pI_eql, ↓ap_assign, pop_assign]
        apply hK; clear hK K
        refine awp_cond (b := _) rfl (fun hb4 => ?_) (fun hb4 => ?_)
        · try simp only [decide_eq_true_eq] at hb4
          have hst : stepE (items l) e = ⟨nmE e.name, lv, p, 0, 1, -1, 0⟩ := by
            unfold stepE
            rw [show e.flag % 12 = 1 by omega, hpl]
            rfl
          -- region 16  law.go:36
          refine awp_r [0, 2, 3, 4, 5, 6] (by rfl) ?_
          simp (decide := true) only [ev, putD, Slots.put, Slots.get, if_true, if_false, true_and, ↓ap_fieldAddr, pop_fieldAddr, fa44_8, Nat.zero_add]
          refine aOps_store (by rfl) (by rfl) (by repeat (first | exact AHeap.set_same _ _ _ | assumption | refine (AHeap.set_ne _ _ (by first | assumption | exact Ne.symm (by assumption))).trans ?_)) sz3 (by rfl) (by rfl) (by first | exact Nat.le_refl _ | decide | (simp; done) | (simp; omega)) (Nat.zero_le _) (by first | rfl | (simp (decide := true) only [ev, putD, Slots.put, Slots.get, if_true, if_false, AVal.cells, allScal, Bool.and_true, Bool.true_and, sc_int, sc_str, sc_bool])) ?_
          simp only [AHeap.set_set, AVal.cells]
          simp (decide := true) only [aOps_nil, ev, absV, absS, putD, Slots.keep, if_true, if_false, setAt, List.set_cons_zero, List.set_cons_succ]
          change Awp _ _ _ _ _ _ _
          -- region 24  law.go:46
          refine awp_r [0, 2, 3, 4, 5] (by rfl) ?_
          simp (decide := true) only [ev, putD, Slots.put, Slots.get, if_true, if_false, true_and, ↓ap_move, pop_move, ↓ap_loadL, apL_mk, pLoad_agg ag44 sz44, rd_any, cellsAt, List.getD_cons_zero, List.getD_cons_succ, Nat.zero_add, Nat.reduceAdd, lv_bool, lv_int, lv_str, lv_nilSlice, allLive, Bool.and_true]
          refine aOps_buildSlice (cs := itC (stepE (items l) e, namO)) (by rw [hst]; kernel_rfl) fun k24q2 hk24q2 => ?_
          have hn_24q2 : H k24q2 = none := by (simp only [AHeap.set_none] at hk24q2; simp only [hk24q2])
          have ne_24q2_6q1 : k24q2 ≠ k6q1 := by (simp only [AHeap.set_none] at hk24q2; simp only [hk24q2, ne_eq, not_false_eq_true])
          have ne_24q2_r : k24q2 ≠ kr := AHeap.ne_some hn_24q2 eb_r
          refine aOps_appendRow (es := 22) (k := kr) (c := c) (xs := l.map itC) (ys := [itC (stepE (items l) e, namO)]) (by rfl) (by rfl) Tryd.underlying25 Tryd.underlying25 (fun k e => by cases e) sz44 by44 ze44 (by rfl) (by decide) (by rw [List.length_map]; rfl) hcap (by repeat (first | exact AHeap.set_same _ _ _ | assumption | refine (AHeap.set_ne _ _ (by first | assumption | exact Ne.symm (by assumption))).trans ?_)) hwd hal (by rfl) (IsL.own (b := ⟨itC (stepE (items l) e, namO), 0⟩) (by repeat (first | exact AHeap.set_same _ _ _ | assumption | refine (AHeap.set_ne _ _ (by first | assumption | exact Ne.symm (by assumption))).trans ?_)) (by intro x hx; rw [List.mem_singleton.1 hx]; rfl) (by simp) (by rw [hst]; rfl) (.exact 1) (Nat.le_refl _)) (by rw [hst]; rfl) (by simp) (by simp; omega) (by simp; omega) fun k24 h24 g1 g2 g3 => ?_
          simp (decide := true) only [aOps_nil, ev, putD, Slots.put, Slots.get, Slots.keep, if_true, if_false, true_and, ↓ap_assign, pop_assign]
          change Awp _ _ _ _ _ _ _
          -- region 5  law.go:24
          refine awp_r [0, 2, 3, 4, 5] (by rfl) ?_
          simp (decide := true) only [aOps_nil, ev, absV, absS, putD, Slots.put, Slots.get, Slots.keep, if_true, if_false, true_and, ↓ap_move, pop_move, ↓ap_binOp, pop_binOp, isNilC_int, cond_false, pBinX_int, pI_add, ↓ap_assign, pop_assign]
          try simp (disch := omega) only [wrap_i64]
          try simp only [thenA_normal]
          refine ⟨⟨i + 1, h24, k24, .grow 22, l ++ [(stepE (items l) e, namO)]⟩, ?_, Sub.refl _, of_step ⟨⟨hi1, hi2⟩, hs_H, eb_a, eb_b, eb_r, ⟨hnr, ne_r_a, ne_r_b⟩, hcap, heq, hlen, hoth⟩ hi' (by omega) he hn_6q1 hn_24q2 g1 g2 g3, by simp only; omega⟩
          simp only [List.length_map, List.length_append]
          rfl
        · try simp only [decide_eq_false_iff_not] at hb4
          -- region 17  law.go:37
          refine awp_rseq [0, 2, 3, 4, 5, 6, 68, 75] (by rfl) fun K hK => ?_
          simp (decide := true) only [aOps_nil, ev, absV, absS, putD, Slots.put, Slots.get, Slots.keep, if_true, if_false, true_and, ↓ap_binOp, pop_binOp, isNilC_int, cond_false, pBinX_int, pI_eql, ↓ap_assign, pop_assign]
          apply hK; clear hK K
          refine awp_cond (b := _) rfl (fun hb5 => ?_) (fun hb5 => ?_)
          · try simp only [decide_eq_true_eq] at hb5
            have hst : stepE (items l) e = ⟨nmE e.name, lv, p, 0, 1, 0, -1⟩ := by
              unfold stepE
              rw [show e.flag % 12 = 2 by omega, hpl]
              rfl
            -- region 18  law.go:38
            refine awp_r [0, 2, 3, 4, 5, 6] (by rfl) ?_
            simp (decide := true) only [ev, putD, Slots.put, Slots.get, if_true, if_false, true_and, ↓ap_fieldAddr, pop_fieldAddr, fa44_7, Nat.zero_add]
            refine aOps_store (by rfl) (by rfl) (by repeat (first | exact AHeap.set_same _ _ _ | assumption | refine (AHeap.set_ne _ _ (by first | assumption | exact Ne.symm (by assumption))).trans ?_)) sz3 (by rfl) (by rfl) (by first | exact Nat.le_refl _ | decide | (simp; done) | (simp; omega)) (Nat.zero_le _) (by first | rfl | (simp (decide := true) only [ev, putD, Slots.put, Slots.get, if_true, if_false, AVal.cells, allScal, Bool.and_true, Bool.true_and, sc_int, sc_str, sc_bool])) ?_
            simp only [AHeap.set_set, AVal.cells]
            simp (decide := true) only [aOps_nil, ev, absV, absS, putD, Slots.keep, if_true, if_false, setAt, List.set_cons_zero, List.set_cons_succ]
            change Awp _ _ _ _ _ _ _
            -- region 24  law.go:46
            refine awp_r [0, 2, 3, 4, 5] (by rfl) ?_
            simp (decide := true) only [ev, putD, Slots.put, Slots.get, if_true, if_false, true_and, ↓ap_move, pop_move, ↓ap_loadL, apL_mk, pLoad_agg ag44 sz44, rd_any, cellsAt, List.getD_cons_zero, List.getD_cons_succ, Nat.zero_add, Nat.reduceAdd, lv_bool, lv_int, lv_str, lv_nilSlice, allLive, Bool.and_true]
            refine aOps_buildSlice (cs := itC (stepE (items l) e, namO)) (by rw [hst]; kernel_rfl) fun k24q2 hk24q2 => ?_
            have hn_24q2 : H k24q2 = none := by (simp only [AHeap.set_none] at hk24q2; simp only [hk24q2])
            have ne_24q2_6q1 : k24q2 ≠ k6q1 := by (simp only [AHeap.set_none] at hk24q2; simp only [hk24q2, ne_eq, not_false_eq_true])
            have ne_24q2_r : k24q2 ≠ kr := AHeap.ne_some hn_24q2 eb_r
            refine aOps_appendRow (es := 22) (k := kr) (c := c) (xs := l.map itC) (ys := [itC (stepE (items l) e, namO)]) (by rfl) (by rfl) Tryd.underlying25 Tryd.underlying25 (fun k e => by cases e) sz44 by44 ze44 (by rfl) (by decide) (by rw [List.length_map]; rfl) hcap (by repeat (first | exact AHeap.set_same _ _ _ | assumption | refine (AHeap.set_ne _ _ (by first | assumption | exact Ne.symm (by assumption))).trans ?_)) hwd hal (by rfl) (IsL.own (b := ⟨itC (stepE (items l) e, namO), 0⟩) (by repeat (first | exact AHeap.set_same _ _ _ | assumption | refine (AHeap.set_ne _ _ (by first | assumption | exact Ne.symm (by assumption))).trans ?_)) (by intro x hx; rw [List.mem_singleton.1 hx]; rfl) (by simp) (by rw [hst]; rfl) (.exact 1) (Nat.le_refl _)) (by rw [hst]; rfl) (by simp) (by simp; omega) (by simp; omega) fun k24 h24 g1 g2 g3 => ?_
            simp (decide := true) only [aOps_nil, ev, putD, Slots.put, Slots.get, Slots.keep, if_true, if_false, true_and, ↓ap_assign, pop_assign]
            change Awp _ _ _ _ _ _ _
            -- region 5  law.go:24
            refine awp_r [0, 2, 3, 4, 5] (by rfl) ?_
            simp (decide := true) only [aOps_nil, ev, absV, absS, putD, Slots.put, Slots.get, Slots.keep, if_true, if_false, true_and, ↓ap_move, pop_move, ↓ap_binOp, pop_binOp, isNilC_int, cond_false, pBinX_int, pI_add, ↓ap_assign, pop_assign]
            try simp (disch := omega) only [wrap_i64]
            try simp only [thenA_normal]
            refine ⟨⟨i + 1, h24, k24, .grow 22, l ++ [(stepE (items l) e, namO)]⟩, ?_, Sub.refl _, of_step ⟨⟨hi1, hi2⟩, hs_H, eb_a, eb_b, eb_r, ⟨hnr, ne_r_a, ne_r_b⟩, hcap, heq, hlen, hoth⟩ hi' (by omega) he hn_6q1 hn_24q2 g1 g2 g3, by simp only; omega⟩
            simp only [List.length_map, List.length_append]
            rfl
          · try simp only [decide_eq_false_iff_not] at hb5
            -- region 19  law.go:39
            refine awp_rseq [0, 2, 3, 4, 5, 6, 78] (by rfl) fun K hK => ?_
            simp (decide := true) only [aOps_nil, ev, absV, absS, putD, Slots.put, Slots.get, Slots.keep, if_true, if_false, true_and, ↓ap_binOp, pop_binOp, isNilC_int, cond_false, pBinX_int, pI_eql, ↓ap_assign, pop_assign]
            apply hK; clear hK K
            refine awp_cond (b := _) rfl (fun hb6 => ?_) (fun hb6 => ?_)
            · try simp only [decide_eq_true_eq] at hb6
              have hrl2 := it_rd hLr (i := l.length - 1) (by omega) (j := 1) (by decide)
              have hrp2 := it_rd hLr (i := l.length - 1) (by omega) (j := 2) (by decide)
              rw [Nat.zero_add] at hrl2 hrp2
              obtain ⟨⟨y, qy⟩, hy⟩ : ∃ a, l.getD (l.length - 1) default = a := ⟨_, rfl⟩
              rw [hy] at hrl2 hrp2
              have htn : ((l.length : Int) - 1).toNat = l.length - 1 := by omega
              have hrl2' : (l.map itC).flatten.getD ((l.length - 1) * 22 + 1) .dead = .int .i64 y.level := (rd_own w₀ eb_r _).symm.trans hrl2
              have hrp2' : (l.map itC).flatten.getD ((l.length - 1) * 22 + 2) .dead = .int .i64 y.parent := (rd_own w₀ eb_r _).symm.trans hrp2
              have hyl : lvl (items l) (((items l).length : Int) - 1) = y.level ∧ par (items l) (((items l).length : Int) - 1) = y.parent := by
                unfold lvl par
                rw [hin, htn, items_getD, hy]
                exact ⟨rfl, rfl⟩
              -- region 20  law.go:40
              refine awp_rseq [0, 2, 3, 4, 5, 6] (by rfl) fun K hK => ?_
              simp (decide := true) only [ev, putD, Slots.put, Slots.get, if_true, if_false, true_and, ↓ap_fieldAddr, pop_fieldAddr, fa44_1, Nat.zero_add]
              refine aOps_store (by rfl) (by rfl) (by repeat (first | exact AHeap.set_same _ _ _ | assumption | refine (AHeap.set_ne _ _ (by first | assumption | exact Ne.symm (by assumption))).trans ?_)) sz3 (by rfl) (by rfl) (by first | exact Nat.le_refl _ | decide | (simp; done) | (simp; omega)) (Nat.zero_le _) (by first | rfl | (simp (decide := true) only [ev, putD, Slots.put, Slots.get, if_true, if_false, AVal.cells, allScal, Bool.and_true, Bool.true_and, sc_int, sc_str, sc_bool])) ?_
              simp only [AHeap.set_set, AVal.cells]
              simp (decide := true) only [aOps_nil, ev, absV, absS, putD, Slots.keep, if_true, if_false, setAt, List.set_cons_zero, List.set_cons_succ]
              apply hK; clear hK K
              -- region 21  law.go:41
              refine awp_rseq [0, 2, 3, 4, 5, 6] (by rfl) fun K hK => ?_
              simp (decide := true) only [ev, absV, absS, putD, Slots.put, Slots.get, if_true, if_false, true_and, ↓ap_move, pop_move, ↓ap_len, pop_len, pLen_slice Tryd.underlying25, ↓ap_binOp, pop_binOp, isNilC_int, cond_false, pBinX_int, pI_sub, ↓ap_fieldAddr, pop_fieldAddr, fa44_2, Nat.zero_add]
              try simp (disch := omega) only [wrap_i64]
              refine aOps_store (by rfl) (by rfl) (by repeat (first | exact AHeap.set_same _ _ _ | assumption | refine (AHeap.set_ne _ _ (by first | assumption | exact Ne.symm (by assumption))).trans ?_)) sz3 (by rfl) (by rfl) (by first | exact Nat.le_refl _ | decide | (simp; done) | (simp; omega)) (Nat.zero_le _) (by first | rfl | (simp (decide := true) only [ev, putD, Slots.put, Slots.get, if_true, if_false, AVal.cells, allScal, Bool.and_true, Bool.true_and, sc_int, sc_str, sc_bool])) ?_
              simp only [AHeap.set_set, AVal.cells]
              simp (decide := true) only [aOps_nil, ev, putD, Slots.get, Slots.keep, if_true, if_false, setAt, List.set_cons_zero, List.set_cons_succ]
              apply hK; clear hK K
              -- region 22  law.go:42
              refine awp_rseq [0, 2, 3, 4, 5, 6, 91] (by rfl) fun K hK => ?_
              simp (decide := true) only [aOps_nil, ev, absV, absS, putD, Slots.put, Slots.get, Slots.keep, if_true, if_false, true_and, ↓ap_move, pop_move, ↓ap_fieldAddr, pop_fieldAddr, fa44_2, ↓ap_loadL, apL_mk, pLoad_one ag3, ↓ap_indexAddrL, pIndexAddr_slice Tryd.underlying25 sz44, fa44_1, ↓ap_binOp, pop_binOp, isNilC_int, cond_false, pBinX_int, pI_eql, rd_ne', ne_eq, not_false_eq_true, ne_6q1_r.symm, rd_own w₀ eb_r, rd_any, List.getD_cons_zero, List.getD_cons_succ, Nat.zero_add, lv_int, htn, hrl2']
              repeat (with_reducible refine And.intro ?_ ?_; · first | trivial | omega | (intro hg; simp only [Bool.and_eq_true, Bool.or_eq_true, Bool.not_eq_true', Bool.and_eq_false_iff, Bool.or_eq_false_iff, Bool.not_eq_false', decide_eq_true_eq, decide_eq_false_iff_not, eqNil] at hg; omega) )
              apply hK; clear hK K
              refine awp_cond (b := _) rfl (fun hb7 => ?_) (fun hb7 => ?_)
              · try simp only [decide_eq_true_eq] at hb7
                have hst : stepE (items l) e = ⟨nmE e.name, 88, y.parent, 0, 1, -1, -1⟩ := by
                  unfold stepE
                  rw [show e.flag % 12 = 3 by omega, hpl]
                  simp only
                  rw [hyl.1, hyl.2, if_pos hb7]
                -- region 23  law.go:43
                refine awp_r [0, 2, 3, 4, 5, 6] (by rfl) ?_
                simp (decide := true) only [ev, putD, Slots.put, Slots.get, if_true, if_false, true_and, ↓ap_move, pop_move, ↓ap_fieldAddr, pop_fieldAddr, fa44_2, ↓ap_loadL, apL_mk, pLoad_one ag3, ↓ap_indexAddrL, pIndexAddr_slice Tryd.underlying25 sz44, rd_ne', ne_eq, not_false_eq_true, ne_6q1_r.symm, rd_own w₀ eb_r, rd_any, List.getD_cons_zero, List.getD_cons_succ, Nat.zero_add, lv_int, htn, hrp2']
                repeat (with_reducible refine And.intro ?_ ?_; · first | trivial | omega | (intro hg; simp only [Bool.and_eq_true, Bool.or_eq_true, Bool.not_eq_true', Bool.and_eq_false_iff, Bool.or_eq_false_iff, Bool.not_eq_false', decide_eq_true_eq, decide_eq_false_iff_not, eqNil] at hg; omega) )
                refine aOps_store (by rfl) (by rfl) (by repeat (first | exact AHeap.set_same _ _ _ | assumption | refine (AHeap.set_ne _ _ (by first | assumption | exact Ne.symm (by assumption))).trans ?_)) sz3 (by rfl) (by rfl) (by first | exact Nat.le_refl _ | decide | (simp; done) | (simp; omega)) (Nat.zero_le _) (by first | rfl | (simp (decide := true) only [ev, putD, Slots.put, Slots.get, if_true, if_false, AVal.cells, allScal, Bool.and_true, Bool.true_and, sc_int, sc_str, sc_bool])) ?_
                simp only [AHeap.set_set, AVal.cells]
                simp (decide := true) only [aOps_nil, ev, putD, Slots.get, Slots.keep, if_true, if_false, setAt, List.set_cons_zero, List.set_cons_succ]
                change Awp _ _ _ _ _ _ _
                -- region 24  law.go:46
                refine awp_r [0, 2, 3, 4, 5] (by rfl) ?_
                simp (decide := true) only [ev, putD, Slots.put, Slots.get, if_true, if_false, true_and, ↓ap_move, pop_move, ↓ap_loadL, apL_mk, pLoad_agg ag44 sz44, rd_any, cellsAt, List.getD_cons_zero, List.getD_cons_succ, Nat.zero_add, Nat.reduceAdd, lv_bool, lv_int, lv_str, lv_nilSlice, allLive, Bool.and_true]
                refine aOps_buildSlice (cs := itC (stepE (items l) e, namO)) (by rw [hst]; kernel_rfl) fun k24q2 hk24q2 => ?_
                have hn_24q2 : H k24q2 = none := by (simp only [AHeap.set_none] at hk24q2; simp only [hk24q2])
                have ne_24q2_6q1 : k24q2 ≠ k6q1 := by (simp only [AHeap.set_none] at hk24q2; simp only [hk24q2, ne_eq, not_false_eq_true])
                have ne_24q2_r : k24q2 ≠ kr := AHeap.ne_some hn_24q2 eb_r
                refine aOps_appendRow (es := 22) (k := kr) (c := c) (xs := l.map itC) (ys := [itC (stepE (items l) e, namO)]) (by rfl) (by rfl) Tryd.underlying25 Tryd.underlying25 (fun k e => by cases e) sz44 by44 ze44 (by rfl) (by decide) (by rw [List.length_map]; rfl) hcap (by repeat (first | exact AHeap.set_same _ _ _ | assumption | refine (AHeap.set_ne _ _ (by first | assumption | exact Ne.symm (by assumption))).trans ?_)) hwd hal (by rfl) (IsL.own (b := ⟨itC (stepE (items l) e, namO), 0⟩) (by repeat (first | exact AHeap.set_same _ _ _ | assumption | refine (AHeap.set_ne _ _ (by first | assumption | exact Ne.symm (by assumption))).trans ?_)) (by intro x hx; rw [List.mem_singleton.1 hx]; rfl) (by simp) (by rw [hst]; rfl) (.exact 1) (Nat.le_refl _)) (by rw [hst]; rfl) (by simp) (by simp; omega) (by simp; omega) fun k24 h24 g1 g2 g3 => ?_
                simp (decide := true) only [aOps_nil, ev, putD, Slots.put, Slots.get, Slots.keep, if_true, if_false, true_and, ↓ap_assign, pop_assign]
                change Awp _ _ _ _ _ _ _
                -- region 5  law.go:24
                refine awp_r [0, 2, 3, 4, 5] (by rfl) ?_
                simp (decide := true) only [aOps_nil, ev, absV, absS, putD, Slots.put, Slots.get, Slots.keep, if_true, if_false, true_and, ↓ap_move, pop_move, ↓ap_binOp, pop_binOp, isNilC_int, cond_false, pBinX_int, pI_add, ↓ap_assign, pop_assign]
                try simp (disch := omega) only [wrap_i64]
                try simp only [thenA_normal]
                refine ⟨⟨i + 1, h24, k24, .grow 22, l ++ [(stepE (items l) e, namO)]⟩, ?_, Sub.refl _, of_step ⟨⟨hi1, hi2⟩, hs_H, eb_a, eb_b, eb_r, ⟨hnr, ne_r_a, ne_r_b⟩, hcap, heq, hlen, hoth⟩ hi' (by omega) he hn_6q1 hn_24q2 g1 g2 g3, by simp only; omega⟩
                simp only [List.length_map, List.length_append]
                rfl
              · try simp only [decide_eq_false_iff_not] at hb7
                have hst : stepE (items l) e = ⟨nmE e.name, 88, (l.length : Int) - 1, 0, 1, -1, -1⟩ := by
                  unfold stepE
                  rw [show e.flag % 12 = 3 by omega, hpl]
                  simp only
                  rw [hyl.1, if_neg hb7, hin]
                refine awp_skip ?_
                change Awp _ _ _ _ _ _ _
                -- region 24  law.go:46
                refine awp_r [0, 2, 3, 4, 5] (by rfl) ?_
                simp (decide := true) only [ev, putD, Slots.put, Slots.get, if_true, if_false, true_and, ↓ap_move, pop_move, ↓ap_loadL, apL_mk, pLoad_agg ag44 sz44, rd_any, cellsAt, List.getD_cons_zero, List.getD_cons_succ, Nat.zero_add, Nat.reduceAdd, lv_bool, lv_int, lv_str, lv_nilSlice, allLive, Bool.and_true]
                refine aOps_buildSlice (cs := itC (stepE (items l) e, namO)) (by rw [hst]; kernel_rfl) fun k24q2 hk24q2 => ?_
                have hn_24q2 : H k24q2 = none := by (simp only [AHeap.set_none] at hk24q2; simp only [hk24q2])
                have ne_24q2_6q1 : k24q2 ≠ k6q1 := by (simp only [AHeap.set_none] at hk24q2; simp only [hk24q2, ne_eq, not_false_eq_true])
                have ne_24q2_r : k24q2 ≠ kr := AHeap.ne_some hn_24q2 eb_r
                refine aOps_appendRow (es := 22) (k := kr) (c := c) (xs := l.map itC) (ys := [itC (stepE (items l) e, namO)]) (by rfl) (by rfl) Tryd.underlying25 Tryd.underlying25 (fun k e => by cases e) sz44 by44 ze44 (by rfl) (by decide) (by rw [List.length_map]; rfl) hcap (by repeat (first | exact AHeap.set_same _ _ _ | assumption | refine (AHeap.set_ne _ _ (by first | assumption | exact Ne.symm (by assumption))).trans ?_)) hwd hal (by rfl) (IsL.own (b := ⟨itC (stepE (items l) e, namO), 0⟩) (by repeat (first | exact AHeap.set_same _ _ _ | assumption | refine (AHeap.set_ne _ _ (by first | assumption | exact Ne.symm (by assumption))).trans ?_)) (by intro x hx; rw [List.mem_singleton.1 hx]; rfl) (by simp) (by rw [hst]; rfl) (.exact 1) (Nat.le_refl _)) (by rw [hst]; rfl) (by simp) (by simp; omega) (by simp; omega) fun k24 h24 g1 g2 g3 => ?_
                simp (decide := true) only [aOps_nil, ev, putD, Slots.put, Slots.get, Slots.keep, if_true, if_false, true_and, ↓ap_assign, pop_assign]
                change Awp _ _ _ _ _ _ _
                -- region 5  law.go:24
                refine awp_r [0, 2, 3, 4, 5] (by rfl) ?_
                simp (decide := true) only [aOps_nil, ev, absV, absS, putD, Slots.put, Slots.get, Slots.keep, if_true, if_false, true_and, ↓ap_move, pop_move, ↓ap_binOp, pop_binOp, isNilC_int, cond_false, pBinX_int, pI_add, ↓ap_assign, pop_assign]
                try simp (disch := omega) only [wrap_i64]
                try simp only [thenA_normal]
                refine ⟨⟨i + 1, h24, k24, .grow 22, l ++ [(stepE (items l) e, namO)]⟩, ?_, Sub.refl _, of_step ⟨⟨hi1, hi2⟩, hs_H, eb_a, eb_b, eb_r, ⟨hnr, ne_r_a, ne_r_b⟩, hcap, heq, hlen, hoth⟩ hi' (by omega) he hn_6q1 hn_24q2 g1 g2 g3, by simp only; omega⟩
                simp only [List.length_map, List.length_append]
                rfl
            · try simp only [decide_eq_false_iff_not] at hb6
              have hst : stepE (items l) e = ⟨nmE e.name, lv, p, 0, 1, -1, -1⟩ := by
                unfold stepE
                split
                · omega
                · omega
                · omega
                · omega
                · exact hpl
              refine awp_skip ?_
              change Awp _ _ _ _ _ _ _
              -- region 24  law.go:46
              refine awp_r [0, 2, 3, 4, 5] (by rfl) ?_
              simp (decide := true) only [ev, putD, Slots.put, Slots.get, if_true, if_false, true_and, ↓ap_move, pop_move, ↓ap_loadL, apL_mk, pLoad_agg ag44 sz44, rd_any, cellsAt, List.getD_cons_zero, List.getD_cons_succ, Nat.zero_add, Nat.reduceAdd, lv_bool, lv_int, lv_str, lv_nilSlice, allLive, Bool.and_true]
              refine aOps_buildSlice (cs := itC (stepE (items l) e, namO)) (by rw [hst]; kernel_rfl) fun k24q2 hk24q2 => ?_
              have hn_24q2 : H k24q2 = none := by (simp only [AHeap.set_none] at hk24q2; simp only [hk24q2])
              have ne_24q2_6q1 : k24q2 ≠ k6q1 := by (simp only [AHeap.set_none] at hk24q2; simp only [hk24q2, ne_eq, not_false_eq_true])
              have ne_24q2_r : k24q2 ≠ kr := AHeap.ne_some hn_24q2 eb_r
              refine aOps_appendRow (es := 22) (k := kr) (c := c) (xs := l.map itC) (ys := [itC (stepE (items l) e, namO)]) (by rfl) (by rfl) Tryd.underlying25 Tryd.underlying25 (fun k e => by cases e) sz44 by44 ze44 (by rfl) (by decide) (by rw [List.length_map]; rfl) hcap (by repeat (first | exact AHeap.set_same _ _ _ | assumption | refine (AHeap.set_ne _ _ (by first | assumption | exact Ne.symm (by assumption))).trans ?_)) hwd hal (by rfl) (IsL.own (b := ⟨itC (stepE (items l) e, namO), 0⟩) (by repeat (first | exact AHeap.set_same _ _ _ | assumption | refine (AHeap.set_ne _ _ (by first | assumption | exact Ne.symm (by assumption))).trans ?_)) (by intro x hx; rw [List.mem_singleton.1 hx]; rfl) (by simp) (by rw [hst]; rfl) (.exact 1) (Nat.le_refl _)) (by rw [hst]; rfl) (by simp) (by simp; omega) (by simp; omega) fun k24 h24 g1 g2 g3 => ?_
              simp (decide := true) only [aOps_nil, ev, putD, Slots.put, Slots.get, Slots.keep, if_true, if_false, true_and, ↓ap_assign, pop_assign]
              change Awp _ _ _ _ _ _ _
              -- region 5  law.go:24
              refine awp_r [0, 2, 3, 4, 5] (by rfl) ?_
              simp (decide := true) only [aOps_nil, ev, absV, absS, putD, Slots.put, Slots.get, Slots.keep, if_true, if_false, true_and, ↓ap_move, pop_move, ↓ap_binOp, pop_binOp, isNilC_int, cond_false, pBinX_int, pI_add, ↓ap_assign, pop_assign]
              try simp (disch := omega) only [wrap_i64]
              try simp only [thenA_normal]
              refine ⟨⟨i + 1, h24, k24, .grow 22, l ++ [(stepE (items l) e, namO)]⟩, ?_, Sub.refl _, of_step ⟨⟨hi1, hi2⟩, hs_H, eb_a, eb_b, eb_r, ⟨hnr, ne_r_a, ne_r_b⟩, hcap, heq, hlen, hoth⟩ hi' (by omega) he hn_6q1 hn_24q2 g1 g2 g3, by simp only; omega⟩
              simp only [List.length_map, List.length_append]
              rfl
  · try simp only [decide_eq_false_iff_not, Bool.and_eq_false_iff] at hb1
    refine awp_exit ?_
    change Awp _ _ _ _ _ _ _
    refine Awp.keep [0, 2, 4] ?_
    refine hrest ⟨i, H, kr, c, l⟩ ⟨⟨hi1, hi2⟩, hs_H, eb_a, eb_b, eb_r, ⟨hnr, ne_r_a, ne_r_b⟩, hcap, heq, hlen, hoth⟩ ?_
    simp only
    rw [heq]
    unfold rawE
    congr 1
    rcases Nat.lt_or_ge i 20 with h20 | h20
    · rw [List.take_of_length_le (by omega), List.take_of_length_le (by omega)]
    · rw [show i = 20 by omega]
end Go.Proofs.YtgnebodlkfblcaaDoor

/-
  Contracts: the records that the laws build, their categories.
  Conditions: none.
-/
namespace Go.AM
open Go.Prs
open Go.Proofs
theorem getD_set_self {α : Type} [Inhabited α] {l : List α} {i : Nat} (a : α) (hi : i < l.length) : (l.set i a).getD i default = a := by simp [List.getD, hi]
theorem getD_set_other {α : Type} [Inhabited α] {l : List α} {i j : Nat} (a : α) (h : j ≠ i) : (l.set i a).getD j default = l.getD j default := by simp [List.getD, Ne.symm h]
end Go.AM
namespace Go.Proofs.YtgnebodlkfblcaaDoor
open Go.AM
open Go.Proofs
open Go.Col
open Go.Prs
set_option maxRecDepth 100000

def shE (c : Int) (pic : Str) (n : Int) : List AVal := [.int .u8 c, .int .u8 0, .str pic, .int .i64 n, .int .i64 0, .bool false, .bool false, .bool false, .bool false, .bool false, .int .i64 1]
def shO (c : Int) (pic : Str) (n : Int) (q : ItemP × ItemO) : ItemP × ItemO := ({ q.1 with cat := c }, { q.2 with us := 0, pic := pic, dig := n, scl := 0, sgn := false, lea := false, sep := false, jus := false, bla := false, siz := 1 })
theorem shO_set (c : Int) (pic : Str) (n : Int) (q : ItemP × ItemO) : setAt (itC q) 3 (shE c pic n) = itC (shO c pic n q) := rfl
theorem itC_set {l : List (ItemP × ItemO)} {i : Nat} (hi : i < l.length) (c : Int) (pic : Str) (n : Int) : setAt (l.map itC).flatten (i * 22 + 3) (shE c pic n) = ((l.set i (shO c pic n (l.getD i default))).map itC).flatten := by
  rw [flat_setAt (es := 22) _ it_wide i 3 (by rw [List.length_map]; exact hi) (by simp [shE]), List.map_set]
  congr 2
  rw [List.getD, List.getElem?_map, List.getElem?_eq_getElem hi, ← shO_set, List.getD, List.getElem?_eq_getElem hi]
  rfl
theorem aOps_storeShape {P : Program} {w₀ : World} {ops rest : List Oper} {s : Slots} {H : AHeap} {K : Slots → AHeap → Prop} {dst : Option Tmp} {ty : TypeId} {pos : String} {af : Array Edge} {t : TypeId} {x y : Operand} {k i : Nat} {l : List (ItemP × ItemO)} {c : Int} {pic : Str} {n : Int}
    (hx : ev s x = .ptr (.own k) (i * 22 + 3)) (hv : ev s y = .agg (shE c pic n)) (hb : H k = some ⟨(l.map itC).flatten, 0⟩) (hi : i < l.length) (hn : szOf P t = some 11)
    (hk : aOps P w₀ ops rest (putD s dst (.tuple [])) (H.set k ⟨((l.set i (shO c pic n (l.getD i default))).map itC).flatten, 0⟩) K) :
    aOps P w₀ ops (⟨dst, .store t x y, ty, pos, af, none⟩ :: rest) s H K := by
  refine aOps_store hx hv hb hn rfl rfl ?_ (Nat.zero_le _) rfl ?_
  · simp only
    rw [flatten_len (es := 22) it_wide, List.length_map]
    omega
  · simp only [AVal.cells]
    rw [itC_set hi]
    exact hk

/-! ### Groups -/
def grpN (l : List ItemP) (i k : Nat) : Bool := decide ((i : Int) = 0) || (List.range k).any fun j => decide (i < j) && (decide ((l.getD j default).parent = i) && decide ((l.getD j default).level < 50))
theorem grpN_all (l : List ItemP) (i : Nat) : grpN l i l.length = groupAt l i := by
  unfold grpN groupAt
  congr 1
  rw [Bool.eq_iff_iff]
  simp
theorem grpN_start (l : List ItemP) (i : Nat) : grpN l i (i + 1) = decide ((i : Int) = 0) := by
  unfold grpN
  rw [Bool.eq_iff_iff]
  simp only [Bool.or_eq_true, decide_eq_true_eq, List.any_eq_true, List.mem_range, Bool.and_eq_true]
  constructor
  · rintro (h | ⟨j, hj, h, _⟩)
    · exact h
    · omega
  · exact .inl
theorem grpN_step (l : List ItemP) {i k : Nat} (h : i < k) : grpN l i (k + 1) = (grpN l i k || (decide ((l.getD k default).parent = i) && decide ((l.getD k default).level < 50))) := by
  unfold grpN
  rw [List.range_succ, List.any_append, Bool.or_assoc]
  simp [h]
theorem grow_cat : ∀ (x : List EntryP) (l : List ItemP), (∀ y ∈ l, y.cat = 0) → ∀ y ∈ growE x l, y.cat = 0
  | [], l, h => h
  | e :: x, l, h => grow_cat x _ fun y hy => by
    rcases List.mem_append.1 hy with h' | h'
    · exact h y h'
    · rw [List.mem_singleton.1 h']
      unfold stepE
      split <;> rfl
theorem raw_cat (x : List EntryP) : ∀ y ∈ rawE x, y.cat = 0 := grow_cat _ _ fun y hy => by rw [List.mem_singleton.1 hy]; rfl

structure OfH where
  i : Nat
  H : AHeap
  l : List (ItemP × ItemO)
structure OfP (h : AHeap) (ka kr : Nat) (es : List EntryP) (n : Nat) (s : OfH) : Prop where
  i : s.i ≤ n
  sub : Sub h s.H
  res : s.H ka = some ⟨[.nilSlice, .int .i64 0], 0⟩
  row : s.H kr = some ⟨(s.l.map itC).flatten, 0⟩
  len : s.l.length = n
  at_ : ∀ j, j < n → (s.l.getD j default).1 = { (rawE es).getD j default with cat := if j < s.i then catE (rawE es) es j else 0 } ∧ (s.l.getD j default).2.val = .nilSlice
theorem ofp_done {h : AHeap} {ka kr n : Nat} {es : List EntryP} {s : OfH} (hok : OfP h ka kr es n s) (hn : (rawE es).length = n) (hi : n ≤ s.i) : items s.l = ofE es ∧ ∀ q ∈ s.l, q.2.val = .nilSlice := by
  obtain ⟨-, -, -, -, hl, ha⟩ := hok
  constructor
  · refine List.ext_getElem ?_ fun j h1 h2 => ?_
    · rw [items_len, hl, of_len, ← raw_len, hn]
    · have hj : j < n := by rw [items_len, hl] at h1; exact h1
      have h0 := (ha j hj).1
      rw [if_pos (by omega)] at h0
      have e1 : (items s.l)[j] = (s.l.getD j default).1 := by
        rw [← items_getD, List.getD, List.getElem?_eq_getElem h1]; rfl
      have e2 : (ofE es)[j] = (ofE es).getD j default := by
        rw [List.getD, List.getElem?_eq_getElem h2]; rfl
      rw [e1, e2, h0, of_get (by omega)]
  · intro q hq
    obtain ⟨j, hj, rfl⟩ := List.getElem_of_mem hq
    have := (ha j (by omega)).2
    rwa [List.getD, List.getElem?_eq_getElem hj] at this
theorem ofp_step {h H H' : AHeap} {ka kr n i : Nat} {es : List EntryP} {l l' : List (ItemP × ItemO)} {c : Int} (hok : OfP h ka kr es n ⟨i, H, l⟩) (hn : (rawE es).length = n) (hi : i < n) (hc : c = catE (rawE es) es i) (hs : Sub h H') (he : H' ka = H ka) (hr : H' kr = some ⟨(l'.map itC).flatten, 0⟩) (hl : l'.length = n)
    (h0 : (l'.getD i default).1 = { (l.getD i default).1 with cat := c } ∧ (l'.getD i default).2.val = .nilSlice) (h1 : ∀ j, j ≠ i → l'.getD j default = l.getD j default) : OfP h ka kr es n ⟨i + 1, H', l'⟩ := by
  obtain ⟨-, -, ea, -, -, ha⟩ := hok
  simp only at ea ha
  refine ⟨hi, hs, he.trans ea, hr, hl, fun j hj => ?_⟩
  simp only
  by_cases e : j = i
  · subst e
    rw [if_pos (Nat.lt_succ_self _), h0.1, (ha j hj).1, hc]
    exact ⟨rfl, h0.2⟩
  · rw [h1 j e, (ha j hj).1]
    refine ⟨?_, (ha j hj).2⟩
    congr 1
    by_cases h : j < i
    · rw [if_pos h, if_pos (by omega)]
    · rw [if_neg h, if_neg (by omega)]
structure OfRes (h : AHeap) (es : List EntryP) (r : AVal) (h' : AHeap) : Prop where
  ex : ∃ k lA c, r = .agg [.slice (.own k) 0 lA.length c, .int .i64 0] ∧ h' k = some ⟨(lA.map itC).flatten, 0⟩ ∧ h k = none ∧ items lA = ofE es ∧ (∀ q ∈ lA, q.2.val = .nilSlice) ∧ (c = .exact lA.length ∨ c = .grow 22)
  sub : Sub h h'

set_option maxHeartbeats 4000000 in
theorem l_Of2 (w₀ : World) (h : AHeap) (ka kb : Nat) (cR : List AVal) (v : AVal) (es : List EntryP) (hv : IsL w₀ h 4 v (es.map entC)) (hes : ∀ e ∈ es, EntOk e) (hl : es.length ≤ 9223372036854775807) (s : OfG) (hka : h ka = none) (hok : OfOk h ka kb cR es s) (hraw : items s.l = rawE es) :
    Awp Tryd.prog w₀ 163 (dropSeq 4 (bodyOf Tryd.f8)) (retA Tryd.prog w₀ [.cell 2 27] (OfRes h es)) [(0, v), (2, .ptr (.own ka) 0), (4, .slice (.own s.k) 0 s.l.length s.c)] (s.H) := by
  have hlv := hv.live
  have nv := ent_len hv
  obtain ⟨i0, H0, kr, c, l0⟩ := s
  obtain ⟨⟨hi1, hi2⟩, hs0, ea0, -, er0, ⟨hnr, ne_r_a, -⟩, hcap, -, hlen, hoth⟩ := hok
  simp only at hi1 hi2 hs0 ea0 er0 hnr ne_r_a hcap hlen hoth hraw ⊢
  obtain ⟨n, hn⟩ : ∃ n, n = l0.length := ⟨_, rfl⟩
  have hrl : (rawE es).length = n := by rw [← hraw, items_len, hn]
  have nl : ∀ H : AHeap, pLenH Tryd.prog H 25 (.slice (.own kr) 0 n c) = ⟨True, .int .i64 n⟩ := by
    have hLr : IsL w₀ H0 22 (.slice (.own kr) 0 l0.length c) (l0.map itC) := by
      have := IsL.own (w₀ := w₀) (xs := l0.map itC) er0 it_wide rfl (row_live hoth).1 c (capOk_of hcap)
      rwa [List.length_map] at this
    rw [hn]
    exact it_len hLr
  have hst : OfP h ka kr es n ⟨0, H0, l0⟩ := by
    refine ⟨Nat.zero_le _, hs0, ea0, er0, hn.symm, fun j hj => ?_⟩
    have hj' : j < l0.length := by omega
    have e1 : (l0.getD j default).1 = (rawE es).getD j default := by rw [← hraw, items_getD]
    constructor
    · simp only
      rw [e1, if_neg (by omega), ← raw_cat es ((rawE es).getD j default) (by rw [List.getD, List.getElem?_eq_getElem (by omega)]; exact List.getElem_mem _)]
    · simp only
      rw [List.getD, List.getElem?_eq_getElem hj']
      exact hoth _ (List.getElem_mem hj')
  rw [← hn]
  rw [List.length_map, ← hn] at hcap
  change Awp _ _ _ (Code.seq _ _) _ _ _
  refine awp_seq ?_
  -- region 25  law.go:49
  refine awp_rseq [0, 2, 4, 7] (by rfl) fun K hK => ?_
  simp (decide := true) only [aOps_nil, ev, absV, absS, putD, Slots.put, Slots.keep, if_true, if_false, true_and, ↓ap_assign, pop_assign]
  apply hK; clear hK K
  refine awp_block ?_
  refine awp_loopG [0, 2, 4, 7] (fun g : OfH => [(0, v), (2, .ptr (.own ka) 0), (4, .slice (.own kr) 0 n c), (7, .int .i64 g.i)]) (fun g : OfH => g.H) (fun g : OfH => OfP h ka kr es n g) (fun g : OfH => n - g.i) ⟨0, H0, l0⟩ (by rfl) (Sub.refl _) hst ?_
  rintro ⟨i, H, l⟩ hok
  obtain ⟨hi, hs_H, eb_a, eb_r, hln, hat⟩ := id hok
  simp only at hi hs_H eb_a eb_r hln hat ⊢
  have hotl : ∀ q ∈ l, q.2.val = .nilSlice := by
   intro q hq
   obtain ⟨j, hj, rfl⟩ := List.getElem_of_mem hq
   have := (hat j (by omega)).2
   rwa [List.getD, List.getElem?_eq_getElem hj] at this
  have hLr : IsL w₀ H 22 (.slice (.own kr) 0 l.length c) (l.map itC) := by
   have := IsL.own (w₀ := w₀) (xs := l.map itC) eb_r it_wide rfl (row_live hotl).1 c (capOk_of (by rw [List.length_map, hln]; exact hcap))
   rwa [List.length_map] at this
  refine awp_seq ?_
  -- region 26  law.go:49
  refine awp_rseq [0, 2, 4, 7, 106] (by rfl) fun K hK => ?_
  simp (decide := true) only [aOps_nil, ev, putD, Slots.put, Slots.get, Slots.keep, if_true, if_false, true_and, ↓ap_move, pop_move, ↓ap_len, pop_len, pLen_slice Tryd.underlying25, ↓ap_binOp, pop_binOp, isNilC_tmp, cond_false, pBinX_int, pI_lss]
  apply hK; clear hK K
  refine awp_cond (b := _) rfl (fun hb1 => ?_) (fun hb1 => ?_)
  · try simp only [decide_eq_true_eq] at hb1
    have hi' : i < n := by omega
    refine awp_skip ?_
    change Awp _ _ _ _ _ _ _
    refine awp_seq ?_
    refine awp_block ?_
    -- region 28  law.go:50
    refine awp_rseq [0, 2, 4, 7, 8] (by rfl) fun K hK => ?_
    simp (decide := true) only [aOps_nil, ev, absV, absS, putD, Slots.put, Slots.get, Slots.keep, if_true, if_false, true_and, ↓ap_move, pop_move, ↓ap_binOp, pop_binOp, isNilC_int, cond_false, pBinX_int, pI_eql, ↓ap_assign, pop_assign]
    apply hK; clear hK K
    refine awp_seq ?_
    -- region 29  law.go:51
    refine awp_rseq [0, 2, 4, 7, 8, 9] (by rfl) fun K hK => ?_
    simp (decide := true) only [aOps_nil, ev, absV, absS, putD, Slots.put, Slots.get, Slots.keep, if_true, if_false, true_and, ↓ap_move, pop_move, ↓ap_binOp, pop_binOp, isNilC_int, cond_false, pBinX_int, pI_add, ↓ap_assign, pop_assign]
    try simp (disch := omega) only [wrap_i64]
    apply hK; clear hK K
    refine awp_block ?_
    refine awp_loopG [0, 2, 4, 7, 8, 9] (fun p : Nat × Bool => [(0, v), (2, .ptr (.own ka) 0), (4, .slice (.own kr) 0 n c), (7, .int .i64 i), (8, .bool p.2), (9, .int .i64 p.1)]) (fun p : Nat × Bool => H) (fun p : Nat × Bool => i < p.1 ∧ p.1 ≤ n ∧ p.2 = grpN (rawE es) i p.1) (fun p : Nat × Bool => n - p.1) (i + 1, decide ((i : Int) = 0)) (by rfl) (Sub.refl _) ⟨Nat.lt_succ_self _, hi', (grpN_start _ _).symm⟩ ?_
    rintro ⟨k, b⟩ ⟨hk1, hk2, hk3⟩
    simp only at hk1 hk2 hk3 ⊢
    refine awp_seq ?_
    -- region 30  law.go:51
    refine awp_rseq [0, 2, 4, 7, 8, 9, 116] (by rfl) fun K hK => ?_
    simp (decide := true) only [aOps_nil, ev, putD, Slots.put, Slots.get, Slots.keep, if_true, if_false, true_and, ↓ap_move, pop_move, ↓ap_len, pop_len, pLen_slice Tryd.underlying25, ↓ap_binOp, pop_binOp, isNilC_tmp, cond_false, pBinX_int, pI_lss]
    apply hK; clear hK K
    refine awp_cond (b := _) rfl (fun hb2 => ?_) (fun hb2 => ?_)
    · try simp only [decide_eq_true_eq] at hb2
      have hk' : k < n := by omega
      obtain ⟨x, hx⟩ : ∃ a, (rawE es).getD k default = a := ⟨_, rfl⟩
      have hrl := it_rd hLr (i := k) (by omega) (j := 1) (by decide)
      have hrp := it_rd hLr (i := k) (by omega) (j := 2) (by decide)
      have hxk := (hat k hk').1
      rw [hx] at hxk
      have hxl : (l.getD k default).1.level = x.level := by rw [hxk]
      have hxp : (l.getD k default).1.parent = x.parent := by rw [hxk]
      have hrl' : (l.map itC).flatten.getD (k * 22 + 1) .dead = .int .i64 x.level := by
       rw [← rd_own w₀ eb_r, ← Nat.zero_add (k * 22), hrl, ← hxl]; rfl
      have hrp' : (l.map itC).flatten.getD (k * 22 + 2) .dead = .int .i64 x.parent := by
       rw [← rd_own w₀ eb_r, ← Nat.zero_add (k * 22), hrp, ← hxp]; rfl
      refine awp_skip ?_
      change Awp _ _ _ _ _ _ _
      refine awp_seq ?_
      refine awp_block ?_
      -- region 32  law.go:52
      refine awp_r [0, 2, 4, 7, 8, 9] (by rfl) ?_
      simp (decide := true) only [aOps_nil, ev, absV, absS, putD, Slots.put, Slots.get, Slots.keep, if_true, if_false, true_and, ↓ap_move, pop_move, ↓ag_move, agP, agQ_some, nthDst, gKnown_bool, gKnown_cond, guardB_cond, guardB_bool_true, guardB_bool_false, cv_cv, implies_true, ↓ag_indexAddrL, agQL_some, agL_mk, agL_il2, agL_il3, agL_ir2, agL_ir3, pIndexAddr_slice Tryd.underlying25 sz44, ↓ag_fieldAddr, pop_fieldAddr, fa44_2, cv_fieldAddr, cp_fieldAddr, ↓ag_loadL, agL_ld2, agL_ld3, pLoad_one ag3, ↓ag_binOp, pop_binOp, isNilC_tmp, cond_false, cv_binl, cv_binr, cp_binl, cp_binr, pBinX_int, pI_eql, fa44_1, isNilC_int, pI_lss, ↓ag_pick, pop_pick, pPick_bool, pickV_cond_r, cp_nest1, pickV_and, pickV_or, cv_pick, cp_pick, ↓ap_pick, ↓ap_assign, pop_assign, rd_own w₀ eb_r, Nat.zero_add, lv_int, Int.toNat_natCast, hrl', hrp']
      repeat (with_reducible refine And.intro ?_ ?_; · first | trivial | omega | (intro hg; simp only [Bool.and_eq_true, Bool.or_eq_true, Bool.not_eq_true', Bool.and_eq_false_iff, Bool.or_eq_false_iff, Bool.not_eq_false', decide_eq_true_eq, decide_eq_false_iff_not, eqNil] at hg; omega) )
      change Awp _ _ _ _ _ _ _
      -- region 31  law.go:51
      refine awp_r [0, 2, 4, 7, 8, 9] (by rfl) ?_
      simp (decide := true) only [aOps_nil, ev, absV, absS, putD, Slots.put, Slots.get, Slots.keep, if_true, if_false, true_and, ↓ap_move, pop_move, ↓ap_binOp, pop_binOp, isNilC_int, cond_false, pBinX_int, pI_add, ↓ap_assign, pop_assign]
      try simp (disch := omega) only [wrap_i64]
      try simp only [thenA_normal]
      refine ⟨(k + 1, b || (decide (x.parent = i) && decide (x.level < 50))), rfl, Sub.refl _, ⟨Nat.lt_succ_of_lt hk1, hk', ?_⟩, by simp only; omega⟩
      simp only
      rw [grpN_step _ hk1, hx, hk3]
    · try simp only [decide_eq_false_iff_not] at hb2
      have hkn : k = n := by omega
      subst hkn
      have hg : b = groupAt (rawE es) i := by rw [hk3, ← grpN_all, hrl]
      have hfin : ∀ c', c' = catE (rawE es) es i → ∀ H' l', (l' = l ∧ H' = H ∧ c' = 0) ∨ (∃ X, H' = H.set kr X ∧ X = ⟨(l'.map itC).flatten, 0⟩ ∧ l'.length = k ∧ (l'.getD i default).1 = { (l.getD i default).1 with cat := c' } ∧ (l'.getD i default).2.val = .nilSlice ∧ ∀ j, j ≠ i → l'.getD j default = l.getD j default) → OfP h ka kr es k ⟨i + 1, H', l'⟩ := by
       intro c' hc' H' l' hh
       rcases hh with ⟨rfl, rfl, h0⟩ | ⟨X, rfl, rfl, h1, h2, h3, h4⟩
       · refine ofp_step hok hrl hi' hc' hs_H rfl eb_r hln ⟨?_, (hat i hi').2⟩ fun _ _ => rfl
         rw [(hat i hi').1, h0]
         simp only
         rw [if_neg (Nat.lt_irrefl _)]
       · exact ofp_step hok hrl hi' hc' (Sub.set_off hs_H hnr _) (AHeap.set_ne _ _ ne_r_a.symm) (AHeap.set_same _ _ _) h1 ⟨h2, h3⟩ h4
      refine awp_exit ?_
      change Awp _ _ _ _ _ _ _
      -- region 33  law.go:54
      refine awp_rseq [0, 2, 4, 7, 138] (by rfl) fun K hK => ?_
      simp (decide := true) only [aOps_nil, ev, putD, Slots.put, Slots.get, Slots.keep, if_true, if_false, true_and, ↓ap_move, pop_move, ↓ap_unOp, pop_unOp, pU_not]
      apply hK; clear hK K
      refine awp_cond (b := _) rfl (fun hb3 => ?_) (fun hb3 => ?_)
      · try simp only [Bool.not_eq_true'] at hb3
        have h0 : 0 < i := by
         rcases Nat.eq_zero_or_pos i with e | e
         · exfalso
           rw [hk3, e] at hb3
           simp [grpN] at hb3
         · exact e
        have hgt : (0 < (i : Int)) = True := eq_true (by omega)
        obtain ⟨lce, oe, ce, rfl⟩ := ent_open hv (by omega)
        obtain ⟨e, he⟩ : ∃ e, e = es.getD (i - 1) default := ⟨_, rfl⟩
        have htn : ((i : Int) - 1).toNat = i - 1 := by omega
        have hwr : IntKind.i64.wrap ((i : Int) - 1) = (i : Int) - 1 := wrap_i64 (by omega) (by omega)
        have hm3 : Int.tmod (e.kind : Int) 3 = ((e.kind % 3 : Nat) : Int) := by rw [Int.tmod_eq_emod_of_nonneg (by omega)]; exact (Int.natCast_emod e.kind 3).symm
        have er2 : ∀ X, rd w₀ (H.set kr X) lce (oe + (i - 1) * 4 + 2) = .int .u8 e.kind := fun X => by
         have hX : Sub h (H.set kr X) := Sub.set_off hs_H hnr X
         have q := ent_rd (hv.mono hX) (i := i - 1) (by omega) (j := 2) (by decide) (w₀ := w₀)
         rwa [← he] at q
        obtain ⟨l2, hl2⟩ : ∃ l2, l2 = l.set i (shO 4 [57] 1 (l.getD i default)) := ⟨_, rfl⟩
        obtain ⟨l3, hl3⟩ : ∃ l3, l3 = l2.set i (shO 2 [88] 0 (l2.getD i default)) := ⟨_, rfl⟩
        have hi2l : i < l.length := by omega
        have hll : l2.length = k ∧ l3.length = k := by rw [hl3, hl2]; simp only [List.length_set]; exact ⟨hln, hln⟩
        -- region 34  law.go:55
        refine awp_rseq [0, 2, 4, 7] (by rfl) fun K hK => ?_
        simp (decide := true) only [ev, absV, absS, putD, Slots.put, Slots.get, if_true, if_false, true_and, ↓ap_move, pop_move, ↓ap_build, ↓pop_buildL, bld41_0_2_3_10, evP, List.map_cons, List.map_nil, ↓ap_indexAddrL, apL_mk, pIndexAddr_slice Tryd.underlying25 sz44, ↓ap_fieldAddr, pop_fieldAddr, fa44_3, Nat.zero_add]
        repeat (with_reducible refine And.intro ?_ ?_; · first | trivial | omega | (intro hg; simp only [Bool.and_eq_true, Bool.or_eq_true, Bool.not_eq_true', Bool.and_eq_false_iff, Bool.or_eq_false_iff, Bool.not_eq_false', decide_eq_true_eq, decide_eq_false_iff_not, eqNil] at hg; omega) )
        refine aOps_storeShape (c := 4) (pic := [57]) (n := 1) (i := i) (l := l) (by rfl) (by rfl) eb_r hi2l sz41 ?_
        rw [← hl2]
        simp (decide := true) only [aOps_nil, putD, Slots.keep, if_true, if_false]
        apply hK; clear hK K
        -- region 35  law.go:56
        refine awp_rseq [0, 2, 4, 7, 155] (by rfl) fun K hK => ?_
        simp (decide := true) only [aOps_nil, ev, absV, absS, putD, Slots.put, Slots.get, Slots.keep, if_true, if_false, true_and, ↓ap_move, pop_move, ↓ap_binOp, pop_binOp, isNilC_int, cond_false, pBinX_int, pI_gtr, ↓ag_move, agP, agQ_some, nthDst, gKnown_bool, guardB_bool_true, implies_true, decide_true, condV_true, forall_const, Bool.true_and, ↓ag_binOp, pI_sub, ↓ag_indexAddrL, agQL_some, agL_mk, pIndexAddr_slice Tryd.underlying23 sz58, ↓ag_fieldAddr, pop_fieldAddr, fa58_2, ↓ag_loadL, pLoad_one ag5, pI_rem, pI_eql, ↓ap_pick, pop_pick, pPick_bool, pickV_and, lv_int, hgt, hwr, htn, er2, hm3]
        repeat (with_reducible refine And.intro ?_ ?_; · first | trivial | omega | (intro hg; simp only [Bool.and_eq_true, Bool.or_eq_true, Bool.not_eq_true', Bool.and_eq_false_iff, Bool.or_eq_false_iff, Bool.not_eq_false', decide_eq_true_eq, decide_eq_false_iff_not, eqNil] at hg; omega) )
        apply hK; clear hK K
        refine awp_cond (b := _) rfl (fun hb4 => ?_) (fun hb4 => ?_)
        · try simp only [decide_eq_true_eq] at hb4
          -- region 36  law.go:57
          refine awp_r [0, 2, 4, 7] (by rfl) ?_
          simp (decide := true) only [ev, absV, absS, putD, Slots.put, Slots.get, if_true, if_false, true_and, ↓ap_move, pop_move, ↓ap_build, ↓pop_buildL, bld41_0_2_10, evP, List.map_cons, List.map_nil, ↓ap_indexAddrL, apL_mk, pIndexAddr_slice Tryd.underlying25 sz44, ↓ap_fieldAddr, pop_fieldAddr, fa44_3, Nat.zero_add]
          repeat (with_reducible refine And.intro ?_ ?_; · first | trivial | omega | (intro hg; simp only [Bool.and_eq_true, Bool.or_eq_true, Bool.not_eq_true', Bool.and_eq_false_iff, Bool.or_eq_false_iff, Bool.not_eq_false', decide_eq_true_eq, decide_eq_false_iff_not, eqNil] at hg; omega) )
          refine aOps_storeShape (c := 2) (pic := [88]) (n := 0) (i := i) (l := l2) (by rfl) (by rfl) (AHeap.set_same _ _ _) (by omega) sz41 ?_
          rw [← hl3, AHeap.set_set]
          have hdone := hfin 2 (by unfold catE; rw [← hg, ← he]; simp [hb3, h0, show e.kind % 3 = 0 by omega]) _ l3 (.inr ⟨_, rfl, rfl, hll.2, by rw [hl3, getD_set_self _ (by omega), hl2, getD_set_self _ hi2l]; rfl, by rw [hl3, getD_set_self _ (by omega), hl2, getD_set_self _ hi2l]; exact (hat i hi').2, fun j hj => by rw [hl3, getD_set_other _ hj, hl2, getD_set_other _ hj]⟩)
          simp (decide := true) only [aOps_nil, putD, Slots.keep, if_true, if_false]
          change Awp _ _ _ _ _ _ _
          -- region 27  law.go:49
          refine awp_r [0, 2, 4, 7] (by rfl) ?_
          simp (decide := true) only [aOps_nil, ev, absV, absS, putD, Slots.put, Slots.get, Slots.keep, if_true, if_false, true_and, ↓ap_move, pop_move, ↓ap_binOp, pop_binOp, isNilC_int, cond_false, pBinX_int, pI_add, ↓ap_assign, pop_assign]
          try simp (disch := omega) only [wrap_i64]
          try simp only [thenA_normal]
          exact ⟨⟨i + 1, _, _⟩, rfl, Sub.refl _, hdone, by simp only; omega⟩
        · try simp only [decide_eq_false_iff_not] at hb4
          have hdone := hfin 4 (by unfold catE; rw [← hg, ← he]; simp [hb3, h0, show ¬ e.kind % 3 = 0 by omega]) _ l2 (.inr ⟨_, rfl, rfl, hll.1, by rw [hl2, getD_set_self _ hi2l]; rfl, by rw [hl2, getD_set_self _ hi2l]; exact (hat i hi').2, fun j hj => by rw [hl2, getD_set_other _ hj]⟩)
          refine awp_skip ?_
          change Awp _ _ _ _ _ _ _
          -- region 27  law.go:49
          refine awp_r [0, 2, 4, 7] (by rfl) ?_
          simp (decide := true) only [aOps_nil, ev, absV, absS, putD, Slots.put, Slots.get, Slots.keep, if_true, if_false, true_and, ↓ap_move, pop_move, ↓ap_binOp, pop_binOp, isNilC_int, cond_false, pBinX_int, pI_add, ↓ap_assign, pop_assign]
          try simp (disch := omega) only [wrap_i64]
          try simp only [thenA_normal]
          exact ⟨⟨i + 1, _, _⟩, rfl, Sub.refl _, hdone, by simp only; omega⟩
      · try simp only [Bool.not_eq_false'] at hb3
        have hdone := hfin 0 (by unfold catE; rw [← hg]; simp [hb3]) H l (.inl ⟨rfl, rfl, rfl⟩)
        refine awp_skip ?_
        change Awp _ _ _ _ _ _ _
        -- region 27  law.go:49
        refine awp_r [0, 2, 4, 7] (by rfl) ?_
        simp (decide := true) only [aOps_nil, ev, absV, absS, putD, Slots.put, Slots.get, Slots.keep, if_true, if_false, true_and, ↓ap_move, pop_move, ↓ap_binOp, pop_binOp, isNilC_int, cond_false, pBinX_int, pI_add, ↓ap_assign, pop_assign]
        try simp (disch := omega) only [wrap_i64]
        try simp only [thenA_normal]
        exact ⟨⟨i + 1, _, _⟩, rfl, Sub.refl _, hdone, by simp only; omega⟩
  · try simp only [decide_eq_false_iff_not] at hb1
    obtain ⟨hitems, hoth'⟩ := ofp_done hok hrl (by simp only; omega)
    refine awp_exit ?_
    change Awp _ _ _ _ _ _ _
    -- region 37  law.go:61
    refine awp_rseq [2] (by rfl) fun K hK => ?_
    simp (decide := true) only [ev, absV, absS, putD, Slots.put, Slots.get, if_true, if_false, true_and, ↓ap_move, pop_move, ↓ap_build, ↓pop_buildL, bld27_0, evP, List.map_cons, List.map_nil, Sc_slice]
    refine aOps_store (by rfl) (by rfl) (by repeat (first | exact AHeap.set_same _ _ _ | assumption | refine (AHeap.set_ne _ _ (by first | assumption | exact Ne.symm (by assumption))).trans ?_)) sz27 (by rfl) (by rfl) (by first | exact Nat.le_refl _ | decide | (simp; done) | (simp; omega)) (Nat.zero_le _) (by rfl) ?_
    simp only [AVal.cells]
    simp (decide := true) only [aOps_nil, ev, putD, Slots.get, Slots.keep, if_true, if_false, setAt, List.set_cons_zero, List.set_cons_succ, Nat.zero_add]
    apply hK; clear hK K
    refine awp_ret ?_
    refine retA_retE (?_) ?_
    · simp (decide := true) only [resPre, resV_cell, Slots.get, if_true, and_true, resV_cell, pLoad_agg ag27 sz27, rd_set, cellsAt, List.getD_cons_zero, List.getD_cons_succ, Nat.zero_add, lv_int, lv_slice, allLive, Bool.and_true, cellsAt, List.getD_cons_zero, List.getD_cons_succ, Nat.zero_add, lv_int, lv_slice, allLive, Bool.and_true]
    
    simp (decide := true) only [Slots.get, if_true, resOfG_one, resV_cell, pLoad_agg ag27 sz27, rd_set, cellsAt, List.getD_cons_zero, List.getD_cons_succ, Nat.zero_add, lv_int, lv_slice, allLive, Bool.and_true, cellsAt, List.getD_cons_zero, List.getD_cons_succ, Nat.zero_add, lv_int, lv_slice, allLive, Bool.and_true]
    refine ⟨_, Sub.refl _, ⟨kr, l, c, by rw [hln], ?_, hnr, hitems, hoth', by rw [hln]; exact hcap⟩, Sub.set_off hs_H hka _⟩
    rw [AHeap.set_ne _ _ ne_r_a]
    exact eb_r

set_option maxHeartbeats 4000000 in
theorem c_Of (w₀ : World) (h : AHeap) (v : AVal) (es : List EntryP) (hv : IsL w₀ h 4 v (es.map entC)) (hes : ∀ e ∈ es, EntOk e) (hl : es.length ≤ 9223372036854775807) : ACall Tryd.prog w₀ 8 [v] h (OfRes h es) := by
  have hlv := hv.live
  refine acall_intro (n := 163) (rs := [.cell 2 27]) Tryd.func8 rfl rfl rfl rfl (Nat.le_of_ble_eq_true rfl) ?_
  simp only [initSlots]
  -- region 0  law.go:21
  refine awp_rseq [0, 2] (by rfl) fun K hK => ?_
  refine aOps_alloc ze27 (cs := [.nilSlice, .int .i64 0]) (by rfl) fun k0q0 hk0q0 => ?_
  try have hf_0q0 : h k0q0 = none := by first | assumption | (simp only [AHeap.set_none] at hk0q0; simp only [hk0q0])
  simp (decide := true) only [aOps_nil, putD, Slots.put, Slots.keep, if_true, if_false]
  apply hK; clear hK K
  -- region 1  law.go:22
  refine awp_rseq [0, 2, 3] (by rfl) fun K hK => ?_
  simp (decide := true) only [ev, absV, absS, putD, Slots.put, Slots.get, if_false, true_and, ↓ap_build, ↓pop_buildL, bld44_0_1_2_5_7_8_9_10, evP, List.map_cons, List.map_nil]
  refine aOps_alloc ze44 (cs := [.str [], .int .i64 0, .int .i64 0, .int .u8 0, .int .u8 0, .str [], .int .i64 0, .int .i64 0, .bool false, .bool false, .bool false, .bool false, .bool false, .int .i64 0, .int .i64 0, .int .i64 0, .int .i64 0, .int .i64 0, .int .i64 0, .int .i64 0, .int .i64 0, .nilSlice]) (by rfl) fun k1q1 hk1q1 => ?_
  have ne_1q1_0q0 : k1q1 ≠ k0q0 := by simp only [AHeap.set_none] at hk1q1; simp only [hk1q1, ne_eq, not_false_eq_true]
  try have hf_1q1 : h k1q1 = none := by first | assumption | (simp only [AHeap.set_none] at hk1q1; simp only [hk1q1])
  refine aOps_store (by rfl) (by rfl) (by repeat (first | exact AHeap.set_same _ _ _ | assumption | refine (AHeap.set_ne _ _ (by first | assumption | exact Ne.symm (by assumption))).trans ?_)) sz44 (by rfl) (by rfl) (by first | exact Nat.le_refl _ | decide | (simp; done) | (simp; omega)) (Nat.zero_le _) (by rfl) ?_
  simp only [AHeap.set_set, AVal.cells]
  simp (decide := true) only [aOps_nil, ev, putD, Slots.put, Slots.get, Slots.keep, if_true, if_false, setAt, List.set_cons_zero, List.set_cons_succ, Nat.zero_add, Nat.reduceAdd]
  apply hK; clear hK K
  -- region 2  law.go:23
  refine awp_rseq [0, 2, 3, 4] (by rfl) fun K hK => ?_
  simp (decide := true) only [ev, putD, Slots.put, Slots.get, if_true, if_false, true_and, ↓ap_loadL, apL_mk, pLoad_agg ag44 sz44, rd_any, cellsAt, List.getD_cons_zero, List.getD_cons_succ, Nat.zero_add, Nat.reduceAdd, lv_bool, lv_int, lv_str, lv_nilSlice, allLive, Bool.and_true]
  refine aOps_buildSlice (cs := itemC rootP namO) (by kernel_rfl) fun k2q1 hk2q1 => ?_
  have ne_2q1_0q0 : k2q1 ≠ k0q0 := by simp only [AHeap.set_none] at hk2q1; simp only [hk2q1, ne_eq, not_false_eq_true]
  have ne_2q1_1q1 : k2q1 ≠ k1q1 := by simp only [AHeap.set_none] at hk2q1; simp only [hk2q1, ne_eq, not_false_eq_true]
  try have hf_2q1 : h k2q1 = none := by first | assumption | (simp only [AHeap.set_none] at hk2q1; simp only [hk2q1])
  simp (decide := true) only [aOps_nil, ev, putD, Slots.put, Slots.get, Slots.keep, if_true, if_false, true_and, ↓ap_assign, pop_assign]
  apply hK; clear hK K
  refine Awp.keep [0, 2, 3, 4] ?_
  have hsub : Sub h (((h.set k0q0 ⟨[.nilSlice, .int .i64 0], 0⟩).set k1q1 ⟨itemC rootP namO, 0⟩).set k2q1 ⟨itemC rootP namO, 0⟩) := by
   refine Sub.set_off (Sub.set_off (Sub.set hf_0q0) hf_1q1 _) hf_2q1 _
  refine l_Of1 w₀ h k0q0 k1q1 v es _ hv hes hl _ k2q1 ⟨⟨Nat.zero_le _, Nat.zero_le _⟩, hsub, (by repeat (first | exact AHeap.set_same _ _ _ | assumption | refine (AHeap.set_ne _ _ (by first | assumption | exact Ne.symm (by assumption))).trans ?_)), (by repeat (first | exact AHeap.set_same _ _ _ | assumption | refine (AHeap.set_ne _ _ (by first | assumption | exact Ne.symm (by assumption))).trans ?_)), (by repeat (first | exact AHeap.set_same _ _ _ | assumption | refine (AHeap.set_ne _ _ (by first | assumption | exact Ne.symm (by assumption))).trans ?_)), ⟨hf_2q1, by assumption, by assumption⟩, .inl rfl, rfl, rfl, ?_⟩ ?_
  · intro q hq
    rw [List.mem_singleton.1 hq]; rfl
  · intro s hs hr
    exact l_Of2 w₀ h k0q0 k1q1 _ v es hv hes hl s hf_0q0 hs hr
end Go.Proofs.YtgnebodlkfblcaaDoor

/-
  The laws' records as groups: names and keys are short; rows of pairs.
  Conditions: none.
-/
namespace Go.Prs
open Go.Col (Str digs)
theorem pGo_all (P : Str → Prop) (g : Int) (only : Bool) : ∀ (l : List ItemP) (i : Nat) (acc : List (Int × List Str)), (∀ x ∈ l, P x.name) → (∀ y ∈ acc, ∀ s ∈ y.2, P s) → ∀ y ∈ pGo g only i l acc, ∀ s ∈ y.2, P s
  | [], _, _, _, h, y, hy => h y hy
  | x :: l, i, acc, hl, h, y, hy => by
    rw [pGo] at hy
    refine pGo_all P g only l (i + 1) (pStep g only acc i x) (fun z hz => hl z (List.mem_cons_of_mem _ hz)) (fun z hz => ?_) y hy
    rw [pStep_eq] at hz
    rcases List.mem_append.1 hz with hz | hz
    · exact h z hz
    · unfold newP at hz
      cases hq : lookA x.parent acc with
      | none => rw [hq] at hz; cases hz
      | some p =>
        have hp := h _ (Go.Proofs.YtgnebodlkfblcaaDoor.lookA_mem hq)
        rw [hq] at hz
        simp only at hz
        split at hz
        · rename_i p' he
          split at he
          · rw [Option.some.injEq] at he
            rw [List.mem_singleton] at hz
            subst hz
            intro s hs
            rw [← he] at hs
            rcases List.mem_append.1 hs with hs | hs
            · exact hp s hs
            · rw [List.mem_singleton.1 hs]; exact hl x List.mem_cons_self
          · cases he
        · cases hz
theorem paths_names {l : List ItemP} {g : Int} {only : Bool} {P : Str → Prop} (h : ∀ x ∈ l, P x.name) {y : Int × List Str} (hy : y ∈ pathsE l g only) : ∀ s ∈ y.2, P s :=
  pGo_all P g only l 0 [(g, [])] h (fun y hy => by rw [List.mem_singleton.1 hy]; simp) y (List.mem_of_mem_tail hy)
theorem key_small : ∀ {p : List Str}, (∀ s ∈ p, s.length ≤ 6) → (keyE p).length ≤ 8 * p.length
  | [], _ => by simp [keyE]
  | s :: r, h => by
    have h1 := h s List.mem_cons_self
    have h2 := key_small fun z hz => h z (List.mem_cons_of_mem _ hz)
    have h3 : (digs s.length).length = 1 := by
      generalize s.length = n at h1
      match n, h1 with
      | 0, _ => decide +kernel
      | 1, _ => decide +kernel
      | 2, _ => decide +kernel
      | 3, _ => decide +kernel
      | 4, _ => decide +kernel
      | 5, _ => decide +kernel
      | 6, _ => decide +kernel
    have h4 : (keyE (s :: r)).length = (digs s.length).length + (s.length + 1) + (keyE r).length := by
      simp only [keyE, partE, List.length_append, List.length_cons]
    rw [h4, h3, List.length_cons]
    have h1' : s.length ≤ 6 := h1
    omega
theorem grow_names : ∀ (x : List EntryP) (l : List ItemP), (∀ y ∈ l, y.name.length ≤ 6) → ∀ y ∈ growE x l, y.name.length ≤ 6
  | [], l, h => h
  | e :: x, l, h => grow_names x _ fun y hy => by
    rcases List.mem_append.1 hy with h' | h'
    · exact h y h'
    · rw [List.mem_singleton.1 h']
      have : (nmE e.name).length ≤ 6 := by
        unfold nmE filler
        split <;> decide
      unfold stepE
      split <;> exact this
theorem of_names (x : List EntryP) : ∀ y ∈ ofE x, y.name.length ≤ 6 := by
  intro y hy
  obtain ⟨i, hi, rfl⟩ := List.getElem_of_mem hy
  have hi' : i < (rawE x).length := by rw [of_len, ← raw_len] at hi; exact hi
  have e : (ofE x)[i] = (ofE x).getD i default := by rw [List.getD, List.getElem?_eq_getElem hi]; rfl
  rw [e, of_get hi']
  have hr : ∀ y ∈ [rootP], y.name.length ≤ 6 := fun y hy => by rw [List.mem_singleton.1 hy]; decide
  refine grow_names (x.take 20) [rootP] hr ((rawE x).getD i default) ?_
  rw [List.getD, List.getElem?_eq_getElem hi']
  exact List.getElem_mem hi'
theorem keys_small {l : List ItemP} (h : ∀ y ∈ l, y.name.length ≤ 6) (hl : l.length ≤ 100000) (g : Int) : ∀ y ∈ pathsE l g true, (keyE y.2).length ≤ 140737488355328 := fun y hy => by
  have h1 := key_small (paths_names (P := fun s => s.length ≤ 6) h hy)
  have h2 := Go.Proofs.YtgnebodlkfblcaaDoor.paths_short hy
  omega
theorem filter_at {α : Type} {q : α → Bool} : ∀ (l : List α) (j : Nat) (hj : j < l.length), q l[j] = true → (l.filter q)[((l.take j).filter q).length]? = some l[j]
  | x :: l, 0, _, hq => by
    simp only [List.getElem_cons_zero] at hq
    simp [hq]
  | x :: l, j + 1, hj, hq => by
    simp only [List.getElem_cons_succ] at hq
    have ih := filter_at l j (by simpa using hj) hq
    by_cases hx : q x = true
    · simp only [List.take_succ_cons, List.filter_cons_of_pos hx, List.length_cons, List.getElem?_cons_succ, List.getElem_cons_succ]
      exact ih
    · simp only [List.take_succ_cons, List.filter_cons_of_neg hx, List.getElem_cons_succ]
      exact ih
theorem filter_next {α : Type} {q : α → Bool} (l : List α) (j : Nat) (hj : j < l.length) : ((l.take (j + 1)).filter q).length = ((l.take j).filter q).length + if q l[j] then 1 else 0 := by
  have ht : l.take (j + 1) = l.take j ++ [l[j]] := by rw [List.take_add_one, List.getElem?_eq_getElem hj]; rfl
  rw [ht, List.filter_append, List.length_append]
  congr 1
  by_cases h : q l[j] = true
  · simp [h]
  · simp [h]
theorem filter_le {α : Type} (q : α → Bool) (l : List α) (j : Nat) : ((l.take j).filter q).length ≤ j := Nat.le_trans (List.length_filter_le _ _) (List.length_take_le _ _)
theorem pairs_few (a b : List (Int × List Str)) (is : Int → Int → Bool) : (pairsE a b is).length ≤ a.length * b.length := by
  unfold pairsE
  induction a with
  | nil => simp
  | cons x a ih =>
    rw [List.flatMap_cons, List.length_append, List.length_cons, Nat.succ_mul]
    have : ((b.filter fun y => (y.2 == x.2) && is x.1 y.1).map fun y => (x.1, y.1)).length ≤ b.length := by
      rw [List.length_map]; exact List.length_filter_le _ _
    omega
end Go.Prs
namespace Go.Proofs.YtgnebodlkfblcaaDoor
open Go.AM
open Go.Proofs
open Go.Col
open Go.Prs
set_option maxRecDepth 100000
theorem of_rec {w₀ : World} {h h' : AHeap} {es : List EntryP} {r : AVal} (hr : OfRes h es r h') : ∃ sl la, r = .agg [sl, .int .i64 0] ∧ items la = ofE es ∧ (∀ g, GrpOk w₀ h' sl g la) ∧ sl.scal = true ∧ Sub h h' := by
  obtain ⟨⟨k, la, c, rfl, hk, -, hi, ho, hc⟩, hs⟩ := hr
  have hlen : la.length ≤ 21 := by rw [← items_len, hi, of_len]; omega
  refine ⟨_, la, rfl, hi, fun g => ⟨?_, by omega, ?_⟩, rfl, hs⟩
  · have := IsL.own (w₀ := w₀) (xs := la.map itC) hk it_wide rfl (row_live ho).1 c (capOk_of (by rw [List.length_map]; exact hc))
    rwa [List.length_map] at this
  · rw [hi]
    exact keys_small (of_names es) (by rw [← hi, items_len]; omega) g
theorem of_top (x : List EntryP) : ((ofE x).getD 0 default).cat = 0 ∧ ((ofE x).getD 0 default).level ≤ 49 := by
  have h0 : 0 < (rawE x).length := List.length_pos_iff.2 (raw_good x).ne
  have hg := of_good x
  refine ⟨?_, by rw [hg.root.1]; decide⟩
  rw [of_get h0]
  simp [catE, groupAt]
theorem pr_len {w₀ : World} {h : AHeap} {v : AVal} {ps : List (Int × Int)} (hv : IsL w₀ h 2 v (ps.map pairC)) : ∀ H : AHeap, pLenH Tryd.prog H 30 v = ⟨True, .int .i64 ps.length⟩ := by
  have := hv.len Tryd.underlying30
  rwa [List.length_map] at this
theorem pr_cap {w₀ : World} {h : AHeap} {v : AVal} {ps : List (Int × Int)} (hv : IsL w₀ h 2 v (ps.map pairC)) (hc : capL v = v) : pCap Tryd.prog 30 v = ⟨True, .int .i64 ps.length⟩ := by
  have := hv.cap Tryd.underlying30
  rwa [List.length_map, hc] at this
theorem pr_open {w₀ : World} {h : AHeap} {v : AVal} {ps : List (Int × Int)} (hv : IsL w₀ h 2 v (ps.map pairC)) (hn : 0 < ps.length) : ∃ lc o c, v = .slice lc o ps.length c := by
  obtain ⟨lc, o, c, e⟩ := hv.open (fun e => by rw [List.map_eq_nil_iff] at e; subst e; simp at hn)
  rw [List.length_map] at e
  exact ⟨lc, o, c, e⟩
theorem pr_elem {w₀ : World} {h : AHeap} {ps : List (Int × Int)} {lc : AM.Loc} {o n : Nat} {c : Cap} (hv : IsL w₀ h 2 (.slice lc o n c) (ps.map pairC)) {i : Nat} (hi : i < ps.length) : cellsAt w₀ h lc (o + i * 2) 2 = [.int .i64 (ps.getD i default).1, .int .i64 (ps.getD i default).2] ∧ rd w₀ h lc (o + i * 2) = .int .i64 (ps.getD i default).1 ∧ rd w₀ h lc (o + i * 2 + 1) = .int .i64 (ps.getD i default).2 := by
  have he := hv.elem (i := i) (by rw [List.length_map]; exact hi)
  rw [getD_map (ys := ps) default hi] at he
  have h0 := hv.at (i := i) (j := 0) (by rw [List.length_map]; exact hi) (by decide)
  have h1 := hv.at (i := i) (j := 1) (by rw [List.length_map]; exact hi) (by decide)
  rw [getD_map (ys := ps) default hi] at h0 h1
  exact ⟨he, h0, h1⟩
theorem pr_range {la lb : List ItemP} {g h : Int} {is : Int → Int → Bool} {z : Int × Int} (hz : z ∈ pairsE (pathsE la g true) (pathsE lb h true) is) : (0 ≤ z.1 ∧ z.1 < la.length) ∧ 0 ≤ z.2 ∧ z.2 < lb.length := by
  obtain ⟨p, h1, h2, _⟩ := pairs_mem.1 hz
  have a := paths_range h1
  have b := paths_range h2
  exact ⟨⟨a.1, a.2.1⟩, b.1, b.2.1⟩
theorem pr_few (la lb : List ItemP) (g h : Int) (is : Int → Int → Bool) : (pairsE (pathsE la g true) (pathsE lb h true) is).length ≤ la.length * lb.length :=
  Nat.le_trans (pairs_few _ _ _) (Nat.mul_le_mul (paths_few _ _ _) (paths_few _ _ _))
end Go.Proofs.YtgnebodlkfblcaaDoor

