/-
  Texts of this proof, joined: PrU, PrW, PrX, PrY, PrZ, PsB, PsD, LwR, LwX, LwZ.
  Conditions: none.
-/
import Derived.Test.YtgnebodlkfblcaaDoorCc
import Derived.Test.YtgnebodlkfblcaaDoorProg
import Derived.Test.YtgnebodlkfblcaaDoorCb
import Derived.WalkKit
import Derived.ProofKit
import Derived.OpenShut
import Derived.ShutString
import Derived.ChangeOld
import Derived.Below
import Derived.Deep.Strs
import Derived.Handed
import Derived.HandedShaped
import Derived.Shelf.Vars
import Derived.Test.YtgnebodlkfblcaaDoorRows
import Derived.Lib.LaidTab
import Derived.Lib.SmallJoins
import Derived.MakeChecks
set_option linter.unusedSimpArgs false
set_option linter.unnecessarySimpa false
set_option linter.unusedVariables false
/-
  Contracts: the laws' own functions named and lives.
  Conditions: none.
-/
namespace Go.Proofs.YtgnebodlkfblcaaDoor
open Go.AM
open Go.Proofs
open Go.Col
open Go.Prs
open Go.RowKit (Below)
set_option maxRecDepth 100000

def namO : ItemO := ⟨0, [], 0, 0, false, false, false, false, false, 0, 0, 0, -1, -1, .nilSlice, rfl⟩
theorem itemC_named (name : Str) (level parent cat occ : Int) : itemC (namedE name level parent cat occ) namO = [.str name, .int .i64 level, .int .i64 parent, .int .u8 cat, .int .u8 0, .str [], .int .i64 0, .int .i64 0, .bool false, .bool false, .bool false, .bool false, .bool false, .int .i64 0, .int .i64 0, .int .i64 occ, .int .i64 0, .int .i64 (-1), .int .i64 (-1), .int .i64 (-1), .int .i64 (-1), .nilSlice] := rfl
theorem c_named (w₀ : World) (h : AHeap) (name : Str) (level parent cat : Int) : ACall Tryd.prog w₀ 20 [.str name, .int .i64 level, .int .i64 parent, .int .u8 cat] h (fun r h' => r = .agg (itemC (namedE name level parent cat 1) namO) ∧ h' = h) := by
  rw [itemC_named]
  refine acall_intro (n := 15) (rs := [.cell 8 44]) Tryd.func20 rfl rfl rfl rfl (Nat.le_of_ble_eq_true rfl) ?_
  simp only [initSlots]
  -- region 0  law.go:65
  refine awp_rseq [0, 1, 2, 3, 8] (by rfl) fun K hK => ?_
  refine aOps_alloc ze44 (cs := [.str [], .int .i64 0, .int .i64 0, .int .u8 0, .int .u8 0, .str [], .int .i64 0, .int .i64 0, .bool false, .bool false, .bool false, .bool false, .bool false, .int .i64 0, .int .i64 0, .int .i64 0, .int .i64 0, .int .i64 0, .int .i64 0, .int .i64 0, .int .i64 0, .nilSlice]) (by rfl) fun k0q0 hk0q0 => ?_
  try have hf_0q0 : h k0q0 = none := by first | assumption | (simp only [AHeap.set_none] at hk0q0; simp only [hk0q0])
  simp (decide := true) only [aOps_nil, putD, Slots.put, Slots.keep, if_true, if_false, Nat.zero_add, Nat.reduceAdd]
  apply hK; clear hK K
  -- region 1  law.go:66
  refine awp_rseq [8] (by rfl) fun K hK => ?_
  simp (decide := true) only [ev, absV, absS, putD, Slots.put, Slots.get, if_true, if_false, true_and, ↓ap_move, pop_move, ↓ap_build, ↓pop_buildL, bld41_0, evP, List.map_cons, List.map_nil, bld44_0_1_2_5_7_8_9_10_3]
  refine aOps_store (by rfl) (by rfl) (by repeat (first | exact AHeap.set_same _ _ _ | assumption | refine (AHeap.set_ne _ _ (by first | assumption | exact Ne.symm (by assumption))).trans ?_)) sz44 (by rfl) (by rfl) (by first | exact Nat.le_refl _ | decide | (simp; done) | (simp; omega)) (Nat.zero_le _) (by rfl) ?_
  simp only [AHeap.set_set, AVal.cells]
  simp (decide := true) only [aOps_nil, ev, putD, Slots.get, Slots.keep, if_true, if_false, setAt, List.set_cons_zero, List.set_cons_succ, Nat.zero_add, Nat.reduceAdd]
  apply hK; clear hK K
  refine awp_ret ?_
  refine retA_ret h (by repeat (first | exact Sub.refl _ | assumption | refine Sub.trans_set ?_ (by assumption))) (?_) ?_
  · simp (decide := true) only [resPre, resV_cell, Slots.get, if_true, and_true, resV_cell, pLoad_agg ag44 sz44, rd_set, cellsAt, List.getD_cons_zero, List.getD_cons_succ, Nat.zero_add, Nat.reduceAdd, lv_bool, lv_int, lv_str, lv_nilSlice, allLive, Bool.and_true, cellsAt, List.getD_cons_zero, List.getD_cons_succ, Nat.zero_add, Nat.reduceAdd, lv_bool, lv_int, lv_str, lv_nilSlice, allLive, Bool.and_true]
  
  simp (decide := true) only [Slots.get, if_true, and_true, resOfG_one, resV_cell, pLoad_agg ag44 sz44, rd_set, cellsAt, List.getD_cons_zero, List.getD_cons_succ, Nat.zero_add, Nat.reduceAdd, lv_bool, lv_int, lv_str, lv_nilSlice, allLive, Bool.and_true, cellsAt, List.getD_cons_zero, List.getD_cons_succ, Nat.zero_add, Nat.reduceAdd, lv_bool, lv_int, lv_str, lv_nilSlice, allLive, Bool.and_true]
  all_goals first | rfl | exact ⟨rfl, rfl⟩ | (simp (decide := true) only [if_true, if_false, *]; done) | (trace_state; fail)
def lvA : List (ItemP × ItemO) := exA.map fun p => (p, namO)
def lvB : List (ItemP × ItemO) := exB.map fun p => (p, namO)
theorem items_lvA : items lvA = exA := by unfold items lvA; rw [List.map_map]; exact List.map_id exA
theorem items_lvB : items lvB = exB := by unfold items lvB; rw [List.map_map]; exact List.map_id exB
theorem lvA_live : allLive (lvA.map itC).flatten = true := by kernel_rfl
theorem lvB_live : allLive (lvB.map itC).flatten = true := by kernel_rfl
theorem it_wide {l : List (ItemP × ItemO)} : ∀ x ∈ l.map itC, x.length = 22 := fun x hx => by obtain ⟨y, _, rfl⟩ := List.mem_map.1 hx; rfl
theorem lvA_key : ∀ y ∈ pathsE (items lvA) 0 true, (keyE y.2).length ≤ 140737488355328 := by rw [items_lvA]; decide +kernel
theorem lvB_key : ∀ y ∈ pathsE (items lvB) 0 true, (keyE y.2).length ≤ 140737488355328 := by rw [items_lvB]; decide +kernel
theorem toNat_two : Int.toNat 2 = 2 := rfl
set_option maxHeartbeats 4000000 in
theorem l_lives5 (w₀ : World) (ht10 : Tab10 w₀) (h H : AHeap) (k2 k3 : Nat) (va vb : AVal) (hs_H : Sub h H) (eb_2 : H k2 = some ⟨[va, .int .i64 0, .int .i64 0], 0⟩) (eb_3 : H k3 = some ⟨[vb, .int .i64 0, .int .i64 0], 0⟩)
    (hva : IsL w₀ H 22 va (lvA.map itC)) (hvb : IsL w₀ H 22 vb (lvB.map itC)) :
    Awp Tryd.prog w₀ 114 (dropSeq 5 (bodyOf Tryd.f13)) (retA Tryd.prog w₀ [.tmp 0] (fun r h' => r = .bool true ∧ h' = h)) [(2, .ptr (.own k2) 0), (3, .ptr (.own k3) 0)] (H) := by
  have hlva := hva.live
  have hlvb := hvb.live
  have hga : GrpOk w₀ H va 0 lvA := ⟨hva, by decide, lvA_key⟩
  have hgb : GrpOk w₀ H vb 0 lvB := ⟨hvb, by decide, lvB_key⟩
  have hP := ex_pairs
  have hN := ex_numbers
  have hQ := ex_path
  rw [← items_lvA, ← items_lvB] at hP hN
  rw [← items_lvA] at hQ
  change Awp _ _ _ (Code.seq _ _) _ _ _
  -- region 5  law.go:75
  refine awp_rseq [2, 3, 4, 5] (by rfl) fun K hK => ?_
  simp (decide := true) only [ev, putD, Slots.put, Slots.get, if_true, if_false, true_and, ↓ap_loadL, apL_mk, pLoad_agg ag35 sz35, Bool.and_true, rd_own w₀ eb_2, rd_own w₀ eb_3, cellsAt, List.getD_cons_zero, List.getD_cons_succ, Nat.zero_add, Nat.reduceAdd, lv_int, allLive, Bool.and_true, hlva, hlvb]
  refine aOps_call (by rfl) (by rfl) (c_Pairs w₀ ht10 _ va vb 0 0 0 0 lvA lvB (hga.mono (by repeat (first | exact Sub.refl _ | assumption | refine Sub.set_both ?_ _ _ | refine Sub.trans_set ?_ (by repeat (first | assumption | refine (AHeap.set_ne _ _ (by first | assumption | exact Ne.symm (by assumption))).trans ?_))))) (hgb.mono (by repeat (first | exact Sub.refl _ | assumption | refine Sub.set_both ?_ _ _ | refine Sub.trans_set ?_ (by repeat (first | assumption | refine (AHeap.set_ne _ _ (by first | assumption | exact Ne.symm (by assumption))).trans ?_)))))) fun x5q2 h5q2 hx5q2 => ?_
  obtain ⟨ov, rfl, hov, hcov, hs5⟩ := hx5q2
  rw [hP] at hov ⊢
  have hlov := hov.live
  have hs_h5q2 : Sub h h5q2 := Sub.trans (by repeat (first | exact Sub.refl _ | assumption | refine Sub.trans_set ?_ (by assumption))) hs5
  have hr_h5q2 : Sub H h5q2 := Sub.trans (by repeat (first | exact Sub.refl _ | assumption | refine Sub.trans_set ?_ (by assumption))) hs5
  have eb_2 := hs5 k2 _ (by repeat (first | exact AHeap.set_same _ _ _ | assumption | refine (AHeap.set_ne _ _ (by first | assumption | exact Ne.symm (by assumption))).trans ?_))
  have eb_3 := hs5 k3 _ (by repeat (first | exact AHeap.set_same _ _ _ | assumption | refine (AHeap.set_ne _ _ (by first | assumption | exact Ne.symm (by assumption))).trans ?_))
  simp (decide := true) only [aOps_nil, ev, putD, Slots.put, Slots.get, Slots.keep, if_true, if_false, true_and, ↓ap_move, pop_move, ↓ap_extract, pop_extract, pExt_tuple, List.length_cons, List.length_nil, List.getD_cons_zero, List.getD_cons_succ, ↓ap_assign, pop_assign, List.getD_cons_zero, List.getD_cons_succ, Nat.zero_add, Nat.reduceAdd]
  apply hK; clear hK K
  -- region 6  law.go:76
  refine awp_rseq [2, 4, 5, 6, 7] (by rfl) fun K hK => ?_
  simp (decide := true) only [ev, putD, Slots.put, Slots.get, if_true, if_false, true_and, ↓ap_loadL, apL_mk, pLoad_agg ag35 sz35, Bool.and_true, rd_own w₀ eb_2, rd_own w₀ eb_3, cellsAt, List.getD_cons_zero, List.getD_cons_succ, Nat.zero_add, Nat.reduceAdd, lv_int, allLive, Bool.and_true, hlva, hlvb]
  refine aOps_call (by rfl) (by rfl) (c_Numbers w₀ ht10 _ va vb 0 0 0 0 lvA lvB (hga.mono (by repeat (first | exact Sub.refl _ | assumption | refine Sub.set_both ?_ _ _ | refine Sub.trans_set ?_ (by repeat (first | assumption | refine (AHeap.set_ne _ _ (by first | assumption | exact Ne.symm (by assumption))).trans ?_))))) (hgb.mono (by repeat (first | exact Sub.refl _ | assumption | refine Sub.set_both ?_ _ _ | refine Sub.trans_set ?_ (by repeat (first | assumption | refine (AHeap.set_ne _ _ (by first | assumption | exact Ne.symm (by assumption))).trans ?_)))))) fun x6q2 h6q2 hx6q2 => ?_
  obtain ⟨nv, rfl, hnv, hcnv, hs6⟩ := hx6q2
  rw [hN] at hnv ⊢
  have hlnv := hnv.live
  have hs_h6q2 : Sub h h6q2 := Sub.trans (by repeat (first | exact Sub.refl _ | assumption | refine Sub.trans_set ?_ (by assumption))) hs6
  have hr_h6q2 : Sub h5q2 h6q2 := Sub.trans (by repeat (first | exact Sub.refl _ | assumption | refine Sub.trans_set ?_ (by assumption))) hs6
  have eb_2 := hs6 k2 _ (by repeat (first | exact AHeap.set_same _ _ _ | assumption | refine (AHeap.set_ne _ _ (by first | assumption | exact Ne.symm (by assumption))).trans ?_))
  have eb_3 := hs6 k3 _ (by repeat (first | exact AHeap.set_same _ _ _ | assumption | refine (AHeap.set_ne _ _ (by first | assumption | exact Ne.symm (by assumption))).trans ?_))
  simp (decide := true) only [aOps_nil, ev, putD, Slots.put, Slots.get, Slots.keep, if_true, if_false, true_and, ↓ap_move, pop_move, ↓ap_extract, pop_extract, pExt_tuple, List.length_cons, List.length_nil, List.getD_cons_zero, List.getD_cons_succ, ↓ap_assign, pop_assign, List.getD_cons_zero, List.getD_cons_succ, Nat.zero_add, Nat.reduceAdd]
  apply hK; clear hK K
  -- region 7  law.go:77
  refine awp_rseq [4, 5, 6, 7, 8, 9] (by rfl) fun K hK => ?_
  simp (decide := true) only [ev, putD, Slots.put, Slots.get, if_true, if_false, true_and, ↓ap_loadL, apL_mk, pLoad_agg ag35 sz35, Bool.and_true, rd_own w₀ eb_2, cellsAt, List.getD_cons_zero, List.getD_cons_succ, Nat.zero_add, Nat.reduceAdd, lv_int, allLive, Bool.and_true, hlva]
  refine aOps_call (by rfl) (by rfl) (c_Path w₀ _ va 0 0 3 lvA (hva.mono (hr_h5q2.trans hr_h6q2)) (by decide)) fun x7q1 h7q1 hx7q1 => ?_
  obtain ⟨pv, rfl, hpv, hcpv, hs7⟩ := hx7q1
  rw [hQ] at hpv ⊢
  have hlpv := hpv.live
  have hs_h7q1 : Sub h h7q1 := Sub.trans (by repeat (first | exact Sub.refl _ | assumption | refine Sub.trans_set ?_ (by assumption))) hs7
  have hr_h7q1 : Sub h6q2 h7q1 := Sub.trans (by repeat (first | exact Sub.refl _ | assumption | refine Sub.trans_set ?_ (by assumption))) hs7
  have eb_2 := hs7 k2 _ (by repeat (first | exact AHeap.set_same _ _ _ | assumption | refine (AHeap.set_ne _ _ (by first | assumption | exact Ne.symm (by assumption))).trans ?_))
  have eb_3 := hs7 k3 _ (by repeat (first | exact AHeap.set_same _ _ _ | assumption | refine (AHeap.set_ne _ _ (by first | assumption | exact Ne.symm (by assumption))).trans ?_))
  simp (decide := true) only [aOps_nil, ev, putD, Slots.put, Slots.get, Slots.keep, if_true, if_false, true_and, ↓ap_move, pop_move, ↓ap_extract, pop_extract, pExt_tuple, List.length_cons, List.length_nil, List.getD_cons_zero, List.getD_cons_succ, ↓ap_assign, pop_assign, List.getD_cons_zero, List.getD_cons_succ, Nat.zero_add, Nat.reduceAdd]
  apply hK; clear hK K
  have hov7 := (hov.mono hr_h6q2).mono hr_h7q1
  have hnv7 := hnv.mono hr_h7q1
  obtain ⟨l1, o1, c1, e1⟩ := hov7.open (by simp)
  obtain ⟨l2, o2, c2, e2⟩ := hnv7.open (by simp)
  obtain ⟨l3, o3, c3, e3⟩ := hpv.open (by simp)
  simp only [List.map_cons, List.map_nil, List.length_cons, List.length_nil] at e1 e2 e3
  subst e1 e2 e3
  have p0 := hov7.elem (i := 0) (by simp)
  have p1 := hov7.elem (i := 1) (by simp)
  have p2 := hov7.elem (i := 2) (by simp)
  have n0 := hnv7.elem (i := 0) (by simp)
  have q0 := hpv.at0 (i := 0) (by simp) (by decide)
  have q1 := hpv.at0 (i := 1) (by simp) (by decide)
  simp only [List.map_cons, List.map_nil, List.getD_cons_zero, List.getD_cons_succ, pairC, strC, Nat.zero_mul, Nat.one_mul, Nat.reduceMul, Nat.add_zero] at p0 p1 p2 n0 q0 q1
  trace_state
  -- region 8  law.go:78
  refine awp_rseq [0] (by kernel_rfl) fun K hK => ?_
  try simp only [List.append_eq, List.cons_append, List.nil_append]
  simp (decide := true) only [aOps_nil, ev, absV, absS, putD, Slots.put, Slots.get, Slots.keep, if_true, if_false, true_and, ↓ap_move, pop_move, ↓ap_binOp, pop_binOp, isNilC_int, cond_false, pBinX_int, pI_eql, ↓ag_move, agP, agQ_some, nthDst, gKnown_bool, guardB_bool_true, implies_true, decide_true, condV_true, Bool.and_true, ↓ag_binOp, ↓ap_pick, pop_pick, pPick_bool, ↓ag_len, pop_len, pLen_slice Tryd.underlying30, ↓ag_indexAddrL, agQL_some, agL_mk, pIndexAddr_slice Tryd.underlying30 sz37, ↓ag_loadL, pLoad_agg ag37 sz37, ↓ag_build, ↓pop_buildL, bld37_0_1, evP, List.map_cons, List.map_nil, isNilC_tmp, pBinX_agg, eq37, pLen_slice Tryd.underlying48, pIndexAddr_slice Tryd.underlying48 sz9, pLoad_one ag9, isNilC_str, pBinX_str, pS_eql, ↓ap_assign, pop_assign, decide_true, condV_true, Bool.and_true, pickV_bool, cond_true, cond_false, Nat.zero_add, Nat.reduceAdd, lv_int, lv_str, allLive, Bool.and_true, ↓p0, ↓p1, ↓p2, ↓n0, q0, q1, Int.toNat_zero, Int.toNat_one, toNat_two, Nat.zero_mul, Nat.one_mul, Nat.reduceMul, Nat.add_zero]
  apply hK; clear hK K
  refine awp_ret ?_
  refine retA_ret h (by repeat (first | exact Sub.refl _ | assumption | refine Sub.trans_set ?_ (by assumption))) (resPre_tmp (resPre_nil)) ?_
  simp (decide := true) only [Slots.get, if_true, and_true, resOf_one]
  all_goals first | rfl | exact ⟨rfl, rfl⟩ | (simp (decide := true) only [if_true, if_false, *]; done) | (trace_state; fail)
theorem lv_wide {l : List (ItemP × ItemO)} : ∀ x ∈ l.map itC, x.length = 22 := fun x hx => by obtain ⟨y, _, rfl⟩ := List.mem_map.1 hx; rfl
set_option maxHeartbeats 4000000 in
theorem l_lives3 (w₀ : World) (ht10 : Tab10 w₀) (h H : AHeap) (k1q1 : Nat) (hs_H : Sub h H) (hf_1q1 : h k1q1 = none) (cT : List AVal) (hcT : cT = itemC (namedE [84] 2 0 4 3) namO) (eb_1q1 : H k1q1 = some ⟨cT, 0⟩) :
    Awp Tryd.prog w₀ 114 (dropSeq 3 (bodyOf Tryd.f13)) (retA Tryd.prog w₀ [.tmp 0] (fun r h' => r = .bool true ∧ h' = h)) [(1, .ptr (.own k1q1) 0)] (H) := by
  have hca : cellsAt w₀ H (.own k1q1) 0 22 = cT := by
    rw [cellsAt_own eb_1q1 0 22 (by rw [hcT]; decide), List.drop_zero, hcT]
    rfl
  have hal : allLive cT = true := by rw [hcT]; rfl
  obtain ⟨za0, hza0⟩ : ∃ a, a = itemC (namedE [65] 1 (-1) 0 1) namO := ⟨_, rfl⟩
  obtain ⟨za1, hza1⟩ : ∃ a, a = itemC (namedE [88] 2 0 4 1) namO := ⟨_, rfl⟩
  obtain ⟨za2, hza2⟩ : ∃ a, a = itemC (namedE [71] 2 0 0 1) namO := ⟨_, rfl⟩
  obtain ⟨za3, hza3⟩ : ∃ a, a = itemC (namedE [89] 3 2 4 1) namO := ⟨_, rfl⟩
  obtain ⟨za4, hza4⟩ : ∃ a, a = itemC (namedE [90] 3 2 4 1) namO := ⟨_, rfl⟩
  obtain ⟨za5, hza5⟩ : ∃ a, a = itemC (namedE [70, 73, 76, 76, 69, 82] 2 0 4 1) namO := ⟨_, rfl⟩
  obtain ⟨zb0, hzb0⟩ : ∃ a, a = itemC (namedE [66] 1 (-1) 0 1) namO := ⟨_, rfl⟩
  obtain ⟨zb1, hzb1⟩ : ∃ a, a = itemC (namedE [71] 2 0 0 1) namO := ⟨_, rfl⟩
  obtain ⟨zb2, hzb2⟩ : ∃ a, a = itemC (namedE [90] 3 1 2 1) namO := ⟨_, rfl⟩
  obtain ⟨zb3, hzb3⟩ : ∃ a, a = itemC (namedE [89] 3 1 4 1) namO := ⟨_, rfl⟩
  obtain ⟨zb4, hzb4⟩ : ∃ a, a = itemC (namedE [88] 2 0 0 1) namO := ⟨_, rfl⟩
  obtain ⟨zb5, hzb5⟩ : ∃ a, a = itemC (namedE [89] 3 4 4 1) namO := ⟨_, rfl⟩
  obtain ⟨zb6, hzb6⟩ : ∃ a, a = itemC (namedE [84] 2 0 4 1) namO := ⟨_, rfl⟩
  change Awp _ _ _ (Code.seq _ _) _ _ _
  -- region 3  law.go:73
  refine awp_dseq_I [6, 0, 1, 2, 3, 4, 5, 7, 8, 9, 10, 11] [none, none, some 1, some 2, some 3, some 4, some 5, some 6, some 7, some 8, none, some 9] 11 [2] mixed (by kernel_rfl) (by rfl) fun K hK => ?_
  simp only [permL, List.filterMap_cons, List.filterMap_nil, List.getElem?_cons_zero, List.getElem?_cons_succ]
  refine iOps_read (by rfl) (by kernel_rfl) ?_
  try simp (decide := true) only [aOps_nil, ev, putD, Slots.put, Slots.get, if_true, if_false, true_and, Sub_self, ↓ap_loadL, apL_mk, pLoad_agg ag44 sz44, ↓hca, hal]
  refine iOps_call (by rfl) fun g3q0 hg3q0 => ?_
  have hs_g3q0 : Sub h g3q0 := Sub.trans (by repeat (first | exact Sub.refl _ | assumption | refine Sub.trans_set ?_ (by assumption))) hg3q0
  have hr_g3q0 : Sub H g3q0 := Sub.trans (by repeat (first | exact Sub.refl _ | assumption | refine Sub.trans_set ?_ (by assumption))) hg3q0
  have eb_1q1 := hg3q0 k1q1 _ (by repeat (first | exact AHeap.set_same _ _ _ | assumption | refine (AHeap.set_ne _ _ (by first | assumption | exact Ne.symm (by assumption))).trans ?_))
  refine aOps_callV (V := .agg za0) (by rfl) (by rfl) (by rw [hza0]; exact c_named w₀ _ [65] 1 (-1) 0) ?_
  rw [aOps_nil]
  refine And.intro (by first | exact Sub.refl _ | assumption | exact Sub.set (by assumption)) ?_
  try simp (decide := true) only [putD, Slots.put, if_true, if_false]
  refine iOps_call (by rfl) fun g3q1 hg3q1 => ?_
  have hs_g3q1 : Sub h g3q1 := Sub.trans (by repeat (first | exact Sub.refl _ | assumption | refine Sub.trans_set ?_ (by assumption))) hg3q1
  have hr_g3q1 : Sub g3q0 g3q1 := Sub.trans (by repeat (first | exact Sub.refl _ | assumption | refine Sub.trans_set ?_ (by assumption))) hg3q1
  have eb_1q1 := hg3q1 k1q1 _ (by repeat (first | exact AHeap.set_same _ _ _ | assumption | refine (AHeap.set_ne _ _ (by first | assumption | exact Ne.symm (by assumption))).trans ?_))
  refine aOps_callV (V := .agg za1) (by rfl) (by rfl) (by rw [hza1]; exact c_named w₀ _ [88] 2 0 4) ?_
  rw [aOps_nil]
  refine And.intro (by first | exact Sub.refl _ | assumption | exact Sub.set (by assumption)) ?_
  try simp (decide := true) only [putD, Slots.put, if_true, if_false]
  refine iOps_call (by rfl) fun g3q2 hg3q2 => ?_
  have hs_g3q2 : Sub h g3q2 := Sub.trans (by repeat (first | exact Sub.refl _ | assumption | refine Sub.trans_set ?_ (by assumption))) hg3q2
  have hr_g3q2 : Sub g3q1 g3q2 := Sub.trans (by repeat (first | exact Sub.refl _ | assumption | refine Sub.trans_set ?_ (by assumption))) hg3q2
  have eb_1q1 := hg3q2 k1q1 _ (by repeat (first | exact AHeap.set_same _ _ _ | assumption | refine (AHeap.set_ne _ _ (by first | assumption | exact Ne.symm (by assumption))).trans ?_))
  refine aOps_callV (V := .agg za2) (by rfl) (by rfl) (by rw [hza2]; exact c_named w₀ _ [71] 2 0 0) ?_
  rw [aOps_nil]
  refine And.intro (by first | exact Sub.refl _ | assumption | exact Sub.set (by assumption)) ?_
  try simp (decide := true) only [putD, Slots.put, if_true, if_false]
  refine iOps_call (by rfl) fun g3q3 hg3q3 => ?_
  have hs_g3q3 : Sub h g3q3 := Sub.trans (by repeat (first | exact Sub.refl _ | assumption | refine Sub.trans_set ?_ (by assumption))) hg3q3
  have hr_g3q3 : Sub g3q2 g3q3 := Sub.trans (by repeat (first | exact Sub.refl _ | assumption | refine Sub.trans_set ?_ (by assumption))) hg3q3
  have eb_1q1 := hg3q3 k1q1 _ (by repeat (first | exact AHeap.set_same _ _ _ | assumption | refine (AHeap.set_ne _ _ (by first | assumption | exact Ne.symm (by assumption))).trans ?_))
  refine aOps_callV (V := .agg za3) (by rfl) (by rfl) (by rw [hza3]; exact c_named w₀ _ [89] 3 2 4) ?_
  rw [aOps_nil]
  refine And.intro (by first | exact Sub.refl _ | assumption | exact Sub.set (by assumption)) ?_
  try simp (decide := true) only [putD, Slots.put, if_true, if_false]
  refine iOps_call (by rfl) fun g3q4 hg3q4 => ?_
  have hs_g3q4 : Sub h g3q4 := Sub.trans (by repeat (first | exact Sub.refl _ | assumption | refine Sub.trans_set ?_ (by assumption))) hg3q4
  have hr_g3q4 : Sub g3q3 g3q4 := Sub.trans (by repeat (first | exact Sub.refl _ | assumption | refine Sub.trans_set ?_ (by assumption))) hg3q4
  have eb_1q1 := hg3q4 k1q1 _ (by repeat (first | exact AHeap.set_same _ _ _ | assumption | refine (AHeap.set_ne _ _ (by first | assumption | exact Ne.symm (by assumption))).trans ?_))
  refine aOps_callV (V := .agg za4) (by rfl) (by rfl) (by rw [hza4]; exact c_named w₀ _ [90] 3 2 4) ?_
  rw [aOps_nil]
  refine And.intro (by first | exact Sub.refl _ | assumption | exact Sub.set (by assumption)) ?_
  try simp (decide := true) only [putD, Slots.put, if_true, if_false]
  refine iOps_call (by rfl) fun g3q5 hg3q5 => ?_
  have hs_g3q5 : Sub h g3q5 := Sub.trans (by repeat (first | exact Sub.refl _ | assumption | refine Sub.trans_set ?_ (by assumption))) hg3q5
  have hr_g3q5 : Sub g3q4 g3q5 := Sub.trans (by repeat (first | exact Sub.refl _ | assumption | refine Sub.trans_set ?_ (by assumption))) hg3q5
  have eb_1q1 := hg3q5 k1q1 _ (by repeat (first | exact AHeap.set_same _ _ _ | assumption | refine (AHeap.set_ne _ _ (by first | assumption | exact Ne.symm (by assumption))).trans ?_))
  refine aOps_callV (V := .agg za5) (by rfl) (by rfl) (by rw [hza5]; exact c_named w₀ _ [70, 73, 76, 76, 69, 82] 2 0 4) ?_
  rw [aOps_nil]
  refine And.intro (by first | exact Sub.refl _ | assumption | exact Sub.set (by assumption)) ?_
  try simp (decide := true) only [putD, Slots.put, if_true, if_false]
  refine iOps_call (by rfl) fun g3q7 hg3q7 => ?_
  have hs_g3q7 : Sub h g3q7 := Sub.trans (by repeat (first | exact Sub.refl _ | assumption | refine Sub.trans_set ?_ (by assumption))) hg3q7
  have hr_g3q7 : Sub g3q5 g3q7 := Sub.trans (by repeat (first | exact Sub.refl _ | assumption | refine Sub.trans_set ?_ (by assumption))) hg3q7
  have eb_1q1 := hg3q7 k1q1 _ (by repeat (first | exact AHeap.set_same _ _ _ | assumption | refine (AHeap.set_ne _ _ (by first | assumption | exact Ne.symm (by assumption))).trans ?_))
  refine aOps_buildSlice (cs := (lvA.map itC).flatten) (by subst hza0 hza1 hza2 hza3 hza4 hza5 hcT; kernel_rfl) fun k3q7 hk3q7 => ?_
  have hn_3q7 : g3q7 k3q7 = none := by first | assumption | (simp only [AHeap.set_none] at hk3q7; simp only [hk3q7])
  have hf_3q7 : h k3q7 = none := Sub.none hs_g3q7 hn_3q7
  have ne_3q7_1q1 : k3q7 ≠ k1q1 := AHeap.ne_some hn_3q7 eb_1q1
  rw [aOps_nil]
  refine And.intro (by first | exact Sub.refl _ | assumption | exact Sub.set (by assumption)) ?_
  try simp (decide := true) only [putD, Slots.put, if_false]
  refine iOps_read (by rfl) (by kernel_rfl) ?_
  try simp (decide := true) only [aOps_nil, ev, absV, absS, putD, Slots.put, Slots.get, if_true, if_false, true_and, Sub_self, ↓ap_build, ↓pop_buildL, bld27_0, evP, List.map_cons, List.map_nil, Sc_slice]
  refine iOps_read (by rfl) (by kernel_rfl) ?_
  try simp (decide := true) only [aOps_nil, ev, absV, absS, putD, Slots.put, Slots.get, if_true, if_false, true_and, Sub_self, ↓ap_build, ↓pop_buildL, bld35_0, evP, List.map_cons, List.map_nil]
  refine iOps_alloc (cs := [.nilSlice, .int .i64 0, .int .i64 0]) (by kernel_rfl) fun k3q10 g3q10 hz3q10 hg3q10 eb_3q10 => ?_
  have ne_3q10_3q7 : k3q10 ≠ k3q7 := by first | exact AHeap.ne_some hz3q10 (by repeat (first | exact AHeap.set_same _ _ _ | assumption | refine (AHeap.set_ne _ _ (by first | assumption | exact Ne.symm (by assumption))).trans ?_)) | exact fun e => by have q := hg3q10 k3q7 _ (by repeat (first | exact AHeap.set_same _ _ _ | assumption | refine (AHeap.set_ne _ _ (by first | assumption | exact Ne.symm (by assumption))).trans ?_)); rw [← e, eb_3q10] at q; exact absurd (congrArg (fun b : Option Blk => b.map fun b => b.cells.length) q) (by first | decide | (simp; done))
  have ne_3q10_1q1 : k3q10 ≠ k1q1 := by first | exact AHeap.ne_some hz3q10 (by repeat (first | exact AHeap.set_same _ _ _ | assumption | refine (AHeap.set_ne _ _ (by first | assumption | exact Ne.symm (by assumption))).trans ?_)) | exact fun e => by have q := hg3q10 k1q1 _ (by repeat (first | exact AHeap.set_same _ _ _ | assumption | refine (AHeap.set_ne _ _ (by first | assumption | exact Ne.symm (by assumption))).trans ?_)); rw [← e, eb_3q10] at q; exact absurd (congrArg (fun b : Option Blk => b.map fun b => b.cells.length) q) (by first | decide | (simp; done))
  have hf_3q10 : h k3q10 = none := Sub.none (by repeat (first | exact Sub.refl _ | assumption | refine Sub.trans_set ?_ (by assumption))) hz3q10
  have hs_g3q10 : Sub h g3q10 := Sub.trans (by repeat (first | exact Sub.refl _ | assumption | refine Sub.trans_set ?_ (by assumption))) hg3q10
  have hr_g3q10 : Sub g3q7 g3q10 := Sub.trans (by repeat (first | exact Sub.refl _ | assumption | refine Sub.trans_set ?_ (by assumption))) hg3q10
  have eb_3q7 := hg3q10 k3q7 _ (by repeat (first | exact AHeap.set_same _ _ _ | assumption | refine (AHeap.set_ne _ _ (by first | assumption | exact Ne.symm (by assumption))).trans ?_))
  have eb_1q1 := hg3q10 k1q1 _ (by repeat (first | exact AHeap.set_same _ _ _ | assumption | refine (AHeap.set_ne _ _ (by first | assumption | exact Ne.symm (by assumption))).trans ?_))
  try simp (decide := true) only [putD, Slots.put, if_true, if_false, iOps_zero]
  refine aOps_store (by rfl) (by rfl) (by repeat (first | exact AHeap.set_same _ _ _ | assumption | refine (AHeap.set_ne _ _ (by first | assumption | exact Ne.symm (by assumption))).trans ?_)) sz35 (by rfl) (by rfl) (by first | exact Nat.le_refl _ | decide | (simp; done) | (simp; omega)) (Nat.zero_le _) (by rfl) ?_
  simp only [AVal.cells]
  try simp (decide := true) only [aOps_nil, ev, putD, Slots.get, Slots.keep, if_true, if_false, setAt, List.set_cons_zero, List.set_cons_succ, Nat.zero_add, Nat.reduceAdd]
  apply hK; clear hK K
  -- region 4  law.go:74
  refine awp_rseq [2, 3] (by rfl) fun K hK => ?_
  refine aOps_callV (V := .agg zb0) (by rfl) (by rfl) (by rw [hzb0]; exact c_named w₀ _ [66] 1 (-1) 0) ?_
  refine aOps_callV (V := .agg zb1) (by rfl) (by rfl) (by rw [hzb1]; exact c_named w₀ _ [71] 2 0 0) ?_
  refine aOps_callV (V := .agg zb2) (by rfl) (by rfl) (by rw [hzb2]; exact c_named w₀ _ [90] 3 1 2) ?_
  refine aOps_callV (V := .agg zb3) (by rfl) (by rfl) (by rw [hzb3]; exact c_named w₀ _ [89] 3 1 4) ?_
  refine aOps_callV (V := .agg zb4) (by rfl) (by rfl) (by rw [hzb4]; exact c_named w₀ _ [88] 2 0 0) ?_
  refine aOps_callV (V := .agg zb5) (by rfl) (by rfl) (by rw [hzb5]; exact c_named w₀ _ [89] 3 4 4) ?_
  refine aOps_callV (V := .agg zb6) (by rfl) (by rfl) (by rw [hzb6]; exact c_named w₀ _ [84] 2 0 4) ?_
  refine aOps_buildSlice (cs := (lvB.map itC).flatten) (by subst hzb0 hzb1 hzb2 hzb3 hzb4 hzb5 hzb6; kernel_rfl) fun k4q7 hk4q7 => ?_
  have hn_4q7 : g3q10 k4q7 = none := by first | assumption | (simp only [AHeap.set_none] at hk4q7; simp only [hk4q7])
  have hf_4q7 : h k4q7 = none := Sub.none hs_g3q10 hn_4q7
  have ne_4q7_1q1 : k4q7 ≠ k1q1 := AHeap.ne_some hn_4q7 eb_1q1
  have ne_4q7_3q7 : k4q7 ≠ k3q7 := AHeap.ne_some hn_4q7 eb_3q7
  have ne_4q7_3q10 : k4q7 ≠ k3q10 := AHeap.ne_some hn_4q7 eb_3q10
  simp (decide := true) only [ev, absV, absS, putD, Slots.put, Slots.get, if_true, if_false, true_and, ↓ap_build, ↓pop_buildL, bld27_0, evP, List.map_cons, List.map_nil, Sc_slice, bld35_0]
  refine aOps_alloc ze35 (cs := [.nilSlice, .int .i64 0, .int .i64 0]) (by rfl) fun k4q10 hk4q10 => ?_
  have ne_4q10_4q7 : k4q10 ≠ k4q7 := by simp only [AHeap.set_none] at hk4q10; simp only [hk4q10, ne_eq, not_false_eq_true]
  have hn_4q10 : g3q10 k4q10 = none := by first | assumption | (simp only [AHeap.set_none] at hk4q10; simp only [hk4q10])
  have hf_4q10 : h k4q10 = none := Sub.none hs_g3q10 hn_4q10
  have ne_4q10_1q1 : k4q10 ≠ k1q1 := AHeap.ne_some hn_4q10 eb_1q1
  have ne_4q10_3q7 : k4q10 ≠ k3q7 := AHeap.ne_some hn_4q10 eb_3q7
  have ne_4q10_3q10 : k4q10 ≠ k3q10 := AHeap.ne_some hn_4q10 eb_3q10
  refine aOps_store (by rfl) (by rfl) (by repeat (first | exact AHeap.set_same _ _ _ | assumption | refine (AHeap.set_ne _ _ (by first | assumption | exact Ne.symm (by assumption))).trans ?_)) sz35 (by rfl) (by rfl) (by first | exact Nat.le_refl _ | decide | (simp; done) | (simp; omega)) (Nat.zero_le _) (by rfl) ?_
  simp only [AHeap.set_set, AVal.cells]
  simp (decide := true) only [aOps_nil, ev, putD, Slots.put, Slots.get, Slots.keep, if_true, if_false, setAt, List.set_cons_zero, List.set_cons_succ, Nat.zero_add, Nat.reduceAdd]
  apply hK; clear hK K
  refine Awp.keep [2, 3] ?_
  have lenA : 7 = (lvA.map itC).length := by decide
  have lenB : 7 = (lvB.map itC).length := by decide
  exact l_lives5 w₀ ht10 h _ k3q10 k4q10 (.slice (.own k3q7) 0 7 (.exact 7)) (.slice (.own k4q7) 0 7 (.exact 7)) (by repeat (first | exact Sub.refl _ | assumption | refine Sub.set_both ?_ _ _ | refine Sub.trans_set ?_ (by repeat (first | assumption | refine (AHeap.set_ne _ _ (by first | assumption | exact Ne.symm (by assumption))).trans ?_)))) (by repeat (first | exact AHeap.set_same _ _ _ | assumption | refine (AHeap.set_ne _ _ (by first | assumption | exact Ne.symm (by assumption))).trans ?_)) (by repeat (first | exact AHeap.set_same _ _ _ | assumption | refine (AHeap.set_ne _ _ (by first | assumption | exact Ne.symm (by assumption))).trans ?_)) (by rw [lenA]; exact IsL.own (xs := lvA.map itC) (b := ⟨(lvA.map itC).flatten, 0⟩) (by repeat (first | exact AHeap.set_same _ _ _ | assumption | refine (AHeap.set_ne _ _ (by first | assumption | exact Ne.symm (by assumption))).trans ?_)) lv_wide rfl lvA_live (.exact _) (Nat.le_refl _)) (by rw [lenB]; exact IsL.own (xs := lvB.map itC) (b := ⟨(lvB.map itC).flatten, 0⟩) (by repeat (first | exact AHeap.set_same _ _ _ | assumption | refine (AHeap.set_ne _ _ (by first | assumption | exact Ne.symm (by assumption))).trans ?_)) lv_wide rfl lvB_live (.exact _) (Nat.le_refl _))
set_option maxHeartbeats 1000000 in
theorem c_lives (w₀ : World) (ht10 : Tab10 w₀) (h : AHeap) : ACall Tryd.prog w₀ 13 [] h (fun r h' => r = .bool true ∧ h' = h) := by
  have hnT := itemC_named [84] 2 0 4 1
  have hnT3 := itemC_named [84] 2 0 4 3
  refine acall_intro (n := 114) (rs := [.tmp 0]) Tryd.func13 rfl rfl rfl rfl (Nat.le_of_ble_eq_true rfl) ?_
  simp only [initSlots]
  -- region 0  law.go:70
  refine awp_rseq [] (by rfl) fun K hK => ?_
  simp (decide := true) only [aOps_nil, ev, absV, absS, putD, Slots.put, Slots.keep, if_false, true_and, ↓ap_assign, pop_assign]
  apply hK; clear hK K
  -- region 1  law.go:71
  refine awp_rseq [1] (by rfl) fun K hK => ?_
  refine aOps_callV (V := .agg [.str [84], .int .i64 2, .int .i64 0, .int .u8 4, .int .u8 0, .str [], .int .i64 0, .int .i64 0, .bool false, .bool false, .bool false, .bool false, .bool false, .int .i64 0, .int .i64 0, .int .i64 1, .int .i64 0, .int .i64 (-1), .int .i64 (-1), .int .i64 (-1), .int .i64 (-1), .nilSlice]) (by rfl) (by rfl) (by rw [← hnT]; exact c_named w₀ _ [84] 2 0 4) ?_
  refine aOps_alloc ze44 (cs := [.str [], .int .i64 0, .int .i64 0, .int .u8 0, .int .u8 0, .str [], .int .i64 0, .int .i64 0, .bool false, .bool false, .bool false, .bool false, .bool false, .int .i64 0, .int .i64 0, .int .i64 0, .int .i64 0, .int .i64 0, .int .i64 0, .int .i64 0, .int .i64 0, .nilSlice]) (by rfl) fun k1q1 hk1q1 => ?_
  try have hf_1q1 : h k1q1 = none := by first | assumption | (simp only [AHeap.set_none] at hk1q1; simp only [hk1q1])
  refine aOps_store (by rfl) (by rfl) (by repeat (first | exact AHeap.set_same _ _ _ | assumption | refine (AHeap.set_ne _ _ (by first | assumption | exact Ne.symm (by assumption))).trans ?_)) sz44 (by rfl) (by rfl) (by first | exact Nat.le_refl _ | decide | (simp; done) | (simp; omega)) (Nat.zero_le _) (by rfl) ?_
  simp only [AHeap.set_set, AVal.cells]
  simp (decide := true) only [aOps_nil, ev, putD, Slots.put, Slots.get, Slots.keep, if_true, if_false, setAt, List.set_cons_zero, List.set_cons_succ, Nat.zero_add, Nat.reduceAdd]
  apply hK; clear hK K
  -- region 2  law.go:72
  refine awp_rseq [1] (by rfl) fun K hK => ?_
  simp (decide := true) only [ev, putD, Slots.put, Slots.get, if_true, if_false, true_and, ↓ap_fieldAddr, pop_fieldAddr, fa44_5, Nat.zero_add]
  refine aOps_store (by rfl) (by rfl) (by repeat (first | exact AHeap.set_same _ _ _ | assumption | refine (AHeap.set_ne _ _ (by first | assumption | exact Ne.symm (by assumption))).trans ?_)) sz3 (by rfl) (by rfl) (by first | exact Nat.le_refl _ | decide | (simp; done) | (simp; omega)) (Nat.zero_le _) (by rfl) ?_
  simp only [AHeap.set_set, AVal.cells]
  simp (decide := true) only [aOps_nil, ev, absV, absS, putD, Slots.keep, if_true, if_false, setAt, List.set_cons_zero, List.set_cons_succ]
  apply hK; clear hK K
  refine Awp.keep [1] ?_
  exact l_lives3 w₀ ht10 h _ k1q1 (by repeat (first | exact Sub.refl _ | assumption | refine Sub.set_both ?_ _ _ | refine Sub.trans_set ?_ (by repeat (first | assumption | refine (AHeap.set_ne _ _ (by first | assumption | exact Ne.symm (by assumption))).trans ?_)))) hf_1q1 _ hnT3.symm (by repeat (first | exact AHeap.set_same _ _ _ | assumption | refine (AHeap.set_ne _ _ (by first | assumption | exact Ne.symm (by assumption))).trans ?_))
end Go.Proofs.YtgnebodlkfblcaaDoor

/-
  Rows of the function's own: written at a place, grown.
  Conditions: none.
-/
namespace Go.AM
theorem flat_set1 {α : Type} {es : Nat} (y : α) : ∀ {xs : List (List α)}, (∀ x ∈ xs, x.length = es) → ∀ (i j : Nat), i < xs.length → j < es → xs.flatten.set (i * es + j) y = (xs.set i ((xs.getD i []).set j y)).flatten
  | [], _, i, j, hi, _ => by simp at hi
  | x :: xs, h, 0, j, _, hj => by
    have hx := h x List.mem_cons_self
    rw [List.flatten_cons, Nat.zero_mul, Nat.zero_add, List.set_append_left _ _ (by omega), List.set_cons_zero, List.flatten_cons]
    rfl
  | x :: xs, h, i + 1, j, hi, hj => by
    have hx := h x List.mem_cons_self
    rw [List.flatten_cons, List.set_append_right _ _ (by rw [Nat.succ_mul]; omega), show (i + 1) * es + j - x.length = i * es + j by rw [Nat.succ_mul]; omega, flat_set1 y (fun z hz => h z (List.mem_cons_of_mem _ hz)) i j (by simpa using hi) hj, List.set_cons_succ, List.flatten_cons]
    rfl
theorem flat_setAt {α : Type} {es : Nat} : ∀ (ys : List α) {xs : List (List α)}, (∀ x ∈ xs, x.length = es) → ∀ (i j : Nat), i < xs.length → j + ys.length ≤ es → setAt xs.flatten (i * es + j) ys = (xs.set i (setAt (xs.getD i []) j ys)).flatten
  | [], xs, h, i, j, hi, _ => by
    simp only [setAt]
    congr 1
    rw [List.getD, List.getElem?_eq_getElem hi]
    exact (List.set_getElem_self hi).symm
  | y :: ys, xs, h, i, j, hi, hj => by
    simp only [List.length_cons] at hj
    simp only [setAt]
    have hl : (xs.getD i []).length = es := by
      rw [List.getD, List.getElem?_eq_getElem hi]
      exact h _ (List.getElem_mem hi)
    rw [flat_set1 y h i j hi (by omega), Nat.add_assoc, flat_setAt ys (xs := xs.set i ((xs.getD i []).set j y)) (fun z hz => ?_) i (j + 1) (by rw [List.length_set]; exact hi) (by omega), List.set_set]
    · congr 3
      simp [List.getD, hi]
    · rcases List.mem_or_eq_of_mem_set hz with hz | hz
      · exact h z hz
      · rw [hz, List.length_set]; exact hl
/-- Elements behind a row of the function's own. -/
theorem aOps_appendRow {P : Program} {w₀ : World} {ops rest : List Oper} {s : Slots} {H : AHeap} {K : Slots → AHeap → Prop} {dst : Option Tmp} {ty : TypeId} {pos : String} {af : Array Edge} {ts : Array TypeId} {t u e : TypeId} {d : TypeDesc} {x y : Operand} {v' : AVal} {es by' k : Nat} {c : Cap} {z : Value} {xs ys : List (List AVal)}
    (h0 : ts[0]? = some t) (h1 : ts[1]? = some u) (ht : P.underlying t = some (.slice e)) (hu : P.underlying u = some d) (hd : ∀ k, d ≠ .int k)
    (hs : szOf P e = some es) (hb : byOf P e = some by') (hz : zeOf P e = some z) (hzs : z.cells.size = es) (hes : es ≠ 0)
    (hx : ev s x = .slice (.own k) 0 xs.length c) (hc : c = .exact xs.length ∨ c = .grow es) (hk : H k = some ⟨xs.flatten, 0⟩) (hw : ∀ x ∈ xs, x.length = es) (hal : allLive xs.flatten = true) (hy : ev s y = v') (hv' : IsL w₀ H es v' ys) (hsc : allScal ys.flatten = true) (hne : ys.length ≠ 0)
    (hl : (xs.length + ys.length) * by' ≤ 140737488355328) (hl' : xs.length + ys.length < 4611686018427387904)
    (hkk : ∀ k' H', H' k' = some ⟨(xs ++ ys).flatten, 0⟩ → (H k' = none ∨ k' = k) → (∀ j d, H j = some d → j ≠ k → H' j = some d ∧ j ≠ k') → aOps P w₀ ops rest (putD s dst (.slice (.own k') 0 (xs.length + ys.length) (.grow es))) H' K) :
    aOps P w₀ ops (⟨dst, .call ⟨.builtin .append, [x, y].toArray, ts⟩, ty, pos, af, none⟩ :: rest) s H K := by
  rcases hc with rfl | rfl
  · refine aOps_appendClip (v := .slice (.own k) 0 xs.length (.exact xs.length)) h0 h1 ht hu hd hs hb hz hzs hes hx (IsL.own hk hw rfl hal (.exact _) (Nat.le_refl _)) hy hv' hne hl hl' fun k' hk' _ => ?_
    refine hkk k' _ (AHeap.set_same _ _ _) (.inl hk') fun j d hj _ => ?_
    have hne' : j ≠ k' := fun e => by subst e; rw [hk'] at hj; cases hj
    exact ⟨(AHeap.set_ne _ _ hne').trans hj, hne'⟩
  · have hlen : xs.flatten.length / es = xs.length := by rw [flatten_len hw, Nat.mul_div_cancel _ (Nat.pos_of_ne_zero hes)]
    refine aOps_appendL (zs := xs) (h₀ := H.del k) (b := some ⟨k, xs.flatten⟩) h0 h1 ht hu hd hs hb hz hzs hes (by rw [hx]; simp only [bufV, hlen]) ⟨by simp [AHeap.del], by simp only; rw [flatten_len hw]; exact Nat.mul_mod_left _ _, hal⟩ rfl hw ?_ hy hv' hsc hl hl' fun b' h' o1 o2 o3 => ?_
    · intro j d hj
      by_cases e : j = k
      · subst e
        rw [show bufH (H.del j) (some ⟨j, xs.flatten⟩) = (H.del j).set j ⟨xs.flatten, 0⟩ from rfl, AHeap.set_same] at hj
        rw [← hj]; exact hk
      · rw [show bufH (H.del k) (some ⟨k, xs.flatten⟩) = (H.del k).set k ⟨xs.flatten, 0⟩ from rfl, AHeap.set_ne _ _ e] at hj
        simpa [AHeap.del, e] using hj
    · cases b' with
      | none =>
        exfalso
        have e0 : ((xs ++ ys).flatten).length = 0 := by rw [← o2]; rfl
        have hw2 : ∀ x ∈ xs ++ ys, x.length = es := fun x hx => by
          rcases List.mem_append.1 hx with h | h
          · exact hw x h
          · exact hv'.wide x h
        rw [flatten_len hw2, List.length_append] at e0
        rcases Nat.mul_eq_zero.1 e0 with e | e
        · omega
        · exact hes e
      | some b' =>
        obtain ⟨kb, cells⟩ := b'
        have hcl : cells = (xs ++ ys).flatten := o2
        subst hcl
        have hw2 : ∀ x ∈ xs ++ ys, x.length = es := fun x hx => by
          rcases List.mem_append.1 hx with h | h
          · exact hw x h
          · exact hv'.wide x h
        have hlen2 : (xs ++ ys).flatten.length / es = xs.length + ys.length := by rw [flatten_len hw2, Nat.mul_div_cancel _ (Nat.pos_of_ne_zero hes), List.length_append]
        have hkb : (H.del k) kb = none := o1.1
        have hr := hkk kb h' (o3 _ _ (AHeap.set_same _ _ _)) (by
          by_cases e : kb = k
          · exact .inr e
          · left; simpa [AHeap.del, e] using hkb) (fun j d hj hjk => by
          have hdj : (H.del k) j = some d := by simpa [AHeap.del, hjk] using hj
          have hjb : j ≠ kb := fun e => by subst e; rw [hdj] at hkb; cases hkb
          exact ⟨o3 _ _ ((AHeap.set_ne _ _ hjb).trans hdj), hjb⟩)
        simp only [bufV, hlen2]
        exact hr
end Go.AM

/-
  Contracts: the records that the laws build.
  Conditions: none.
-/
namespace Go.Proofs.YtgnebodlkfblcaaDoor
open Go.AM
open Go.Proofs
open Go.Col
open Go.Prs
open Go.RowKit (Below)
set_option maxRecDepth 100000

/-- An entry, as the laws are handed it. -/
def entC (e : EntryP) : List AVal := [.int .u8 e.level, .int .u8 e.name, .int .u8 e.kind, .int .u8 e.flag]
def EntOk (e : EntryP) : Prop := e.level < 256 ∧ e.name < 256 ∧ e.kind < 256 ∧ e.flag < 256
theorem ent_len {w₀ : World} {h : AHeap} {v : AVal} {es : List EntryP} (hv : IsL w₀ h 4 v (es.map entC)) : ∀ H : AHeap, pLenH Tryd.prog H 23 v = ⟨True, .int .i64 es.length⟩ := by
  have := hv.len Tryd.underlying23
  rwa [List.length_map] at this
theorem ent_open {w₀ : World} {h : AHeap} {v : AVal} {es : List EntryP} (hv : IsL w₀ h 4 v (es.map entC)) (hn : 0 < es.length) : ∃ lc o c, v = .slice lc o es.length c := by
  obtain ⟨lc, o, c, e⟩ := hv.open (fun e => by rw [List.map_eq_nil_iff] at e; subst e; simp at hn)
  rw [List.length_map] at e
  exact ⟨lc, o, c, e⟩
theorem ent_rd {w₀ : World} {h : AHeap} {es : List EntryP} {lc : AM.Loc} {o : Nat} {c : Cap} (hv : IsL w₀ h 4 (.slice lc o es.length c) (es.map entC)) {i : Nat} (hi : i < es.length) {j : Nat} (hj : j < 4) : rd w₀ h lc (o + i * 4 + j) = (entC (es.getD i default)).getD j .dead := by
  have he := hv.at (i := i) (by rw [List.length_map]; exact hi) hj
  rwa [getD_map (ys := es) default hi] at he

/-! ### The search for the group above -/
theorem search_fuel {l : List ItemP} (hg : Prs.Good l) {lv : Int} (hv : 2 ≤ lv) : ∀ (n m : Nat) (p : Int), 0 ≤ p → p < l.length → p < n → p < m → searchE l lv n p = searchE l lv m p
  | 0, m, p, h0, _, h2, _ => by omega
  | n + 1, 0, p, h0, _, _, h2 => by omega
  | n + 1, m + 1, p, h0, h1, h2, h3 => by
    rw [searchE, searchE]
    split
    · rename_i hc
      have hp0 : p ≠ 0 := fun e => by
        subst e
        have := hg.root.1
        unfold lvl at hc
        rw [Int.toNat_zero] at hc
        omega
      have := hg.item p.toNat (by omega) (by omega)
      unfold par at *
      exact search_fuel hg hv n m _ (by omega) (by omega) (by omega) (by omega)
    · rfl
theorem search_step {l : List ItemP} (hg : Prs.Good l) {lv : Int} (hv : 2 ≤ lv) {p : Int} (h0 : 0 ≤ p) (h1 : p < l.length) (hc : lv ≤ (l.getD p.toNat default).level) : searchE l lv l.length p = searchE l lv l.length (l.getD p.toNat default).parent ∧ 0 ≤ (l.getD p.toNat default).parent ∧ (l.getD p.toNat default).parent < p := by
  have hp0 : p ≠ 0 := fun e => by
    subst e
    have := hg.root.1
    rw [Int.toNat_zero] at hc
    omega
  have hi := hg.item p.toNat (by omega) (by omega)
  refine ⟨?_, hi.2.1, by omega⟩
  obtain ⟨n, hn⟩ : ∃ n, l.length = n + 1 := ⟨l.length - 1, by omega⟩
  have e1 : searchE l lv l.length p = searchE l lv n (l.getD p.toNat default).parent := by
    rw [hn, searchE, if_pos (by unfold lvl; exact hc)]
    rfl
  rw [e1]
  exact search_fuel hg hv _ _ _ hi.2.1 (by omega) (by omega) (by omega)
theorem search_stop {l : List ItemP} {lv p : Int} (hl : 0 < l.length) (hc : ¬ lv ≤ (l.getD p.toNat default).level) : searchE l lv l.length p = p := by
  obtain ⟨n, hn⟩ : ∃ n, l.length = n + 1 := ⟨l.length - 1, by omega⟩
  rw [hn, searchE, if_neg (by unfold lvl; exact hc)]
theorem nmE_get (n : Nat) : ([AVal.str [88], .str [89], .str [90], .str [71], .str [70, 73, 76, 76, 69, 82]] : List AVal).getD (n % 5) .dead = .str (nmE n) := by
  unfold nmE filler
  have : n % 5 < 5 := Nat.mod_lt _ (by decide)
  generalize n % 5 = m at *
  match m, this with
  | 0, _ => rfl
  | 1, _ => rfl
  | 2, _ => rfl
  | 3, _ => rfl
  | 4, _ => rfl

/-! ### The first loop -/
theorem grow_snoc : ∀ (x : List EntryP) (l : List ItemP) (e : EntryP), growE (x ++ [e]) l = growE x l ++ [stepE (growE x l) e]
  | [], l, e => rfl
  | y :: x, l, e => by rw [List.cons_append, growE, growE, grow_snoc x]
structure OfG where
  i : Nat
  H : AHeap
  k : Nat
  c : Cap
  l : List (ItemP × ItemO)
structure OfOk (h : AHeap) (ka kb : Nat) (cR : List AVal) (es : List EntryP) (s : OfG) : Prop where
  i : s.i ≤ es.length ∧ s.i ≤ 20
  sub : Sub h s.H
  res : s.H ka = some ⟨[.nilSlice, .int .i64 0], 0⟩
  root : s.H kb = some ⟨cR, 0⟩
  row : s.H s.k = some ⟨(s.l.map itC).flatten, 0⟩
  new : h s.k = none ∧ s.k ≠ ka ∧ s.k ≠ kb
  cap : s.c = .exact (s.l.map itC).length ∨ s.c = .grow 22
  eq : items s.l = growE (es.take s.i) [rootP]
  len : s.l.length = s.i + 1
  oth : ∀ q ∈ s.l, q.2.val = .nilSlice
theorem capOk_of {n : Nat} : ∀ {c : Cap}, (c = .exact n ∨ c = .grow 22) → match c with | .exact m => n ≤ m | .grow g => g = 22 := by
  rintro c (rfl | rfl)
  · exact Nat.le_refl _
  · rfl
theorem row_live {l : List (ItemP × ItemO)} (h : ∀ q ∈ l, q.2.val = .nilSlice) : allLive (l.map itC).flatten = true ∧ allScal (l.map itC).flatten = true := by
  rw [allLive_flatten, allScal_flatten]
  constructor
  · intro x hx
    obtain ⟨q, hq, rfl⟩ := List.mem_map.1 hx
    have := h q hq
    unfold itC itemC
    rw [this]
    rfl
  · intro x hx
    obtain ⟨q, hq, rfl⟩ := List.mem_map.1 hx
    have := h q hq
    unfold itC itemC
    rw [this]
    rfl
theorem of_step {h H H' : AHeap} {ka kb kr k6 k7 k' i : Nat} {cR : List AVal} {es : List EntryP} {c : Cap} {l : List (ItemP × ItemO)} {B1 B2 : Blk} {e : EntryP} (hok : OfOk h ka kb cR es ⟨i, H, kr, c, l⟩) (hi : i < es.length) (h20 : i < 20) (he : e = es.getD i default) (n6 : H k6 = none) (n7 : H k7 = none)
    (g1 : H' k' = some ⟨(l.map itC ++ [itC (stepE (items l) e, namO)]).flatten, 0⟩) (g2 : ((H.set k6 B1).set k7 B2) k' = none ∨ k' = kr) (g3 : ∀ (j : Nat) (d : Blk), ((H.set k6 B1).set k7 B2) j = some d → j ≠ kr → H' j = some d ∧ j ≠ k') :
    OfOk h ka kb cR es ⟨i + 1, H', k', .grow 22, l ++ [(stepE (items l) e, namO)]⟩ := by
  obtain ⟨-, hs, ea, eb, er, ⟨hn, na, nb⟩, -, heq, hlen, hoth⟩ := hok
  simp only at hs ea eb er hn na nb heq hlen hoth
  have g4 : ∀ j d, H j = some d → j ≠ kr → H' j = some d ∧ j ≠ k' := fun j d hj hne => by
    refine g3 j d ?_ hne
    rw [AHeap.set_ne _ _ (AHeap.ne_some n7 hj).symm, AHeap.set_ne _ _ (AHeap.ne_some n6 hj).symm]
    exact hj
  have ga := g4 _ _ ea na.symm
  have gb := g4 _ _ eb nb.symm
  refine ⟨⟨hi, h20⟩, fun j d hj => (g4 j d (hs j d hj) fun e => by subst e; rw [hn] at hj; cases hj).1, ga.1, gb.1, ?_, ⟨?_, ga.2.symm, gb.2.symm⟩, .inr rfl, ?_, ?_, ?_⟩
  · rw [List.map_append]; exact g1
  · rcases g2 with g | g
    · simp only [AHeap.set_none] at g
      exact Sub.none hs (by simp only [g])
    · rw [g]; exact hn
  · have ht : es.take (i + 1) = es.take i ++ [e] := by
      rw [List.take_add_one, he, List.getD, List.getElem?_eq_getElem hi]
      rfl
    rw [ht, grow_snoc, ← heq]
    unfold items
    rw [List.map_append]
    rfl
  · rw [List.length_append, hlen]; rfl
  · intro q hq
    rcases List.mem_append.1 hq with h | h
    · exact hoth q h
    · rw [List.mem_singleton.1 h]; rfl
theorem root_good : Prs.Good [rootP] := ⟨by simp, ⟨rfl, rfl⟩, fun i h0 h1 => by simp at h1; omega⟩

set_option maxHeartbeats 4000000 in
theorem l_Of1 (w₀ : World) (h : AHeap) (ka kb : Nat) (v : AVal) (es : List EntryP) (R : AVal → AHeap → Prop) (hv : IsL w₀ h 4 v (es.map entC)) (hes : ∀ e ∈ es, EntOk e) (hl : es.length ≤ 9223372036854775807) (H0 : AHeap) (k0 : Nat) (hok : OfOk h ka kb (itemC rootP namO) es ⟨0, H0, k0, .exact 1, [(rootP, namO)]⟩)
    (hrest : ∀ s : OfG, OfOk h ka kb (itemC rootP namO) es s → items s.l = rawE es → Awp Tryd.prog w₀ 163 (dropSeq 4 (bodyOf Tryd.f8)) (retA Tryd.prog w₀ [.cell 2 27] (R)) [(0, v), (2, .ptr (.own ka) 0), (4, .slice (.own s.k) 0 s.l.length s.c)] (s.H)) :
    Awp Tryd.prog w₀ 163 (dropSeq 3 (bodyOf Tryd.f8)) (retA Tryd.prog w₀ [.cell 2 27] (R)) [(0, v), (2, .ptr (.own ka) 0), (3, .ptr (.own kb) 0), (4, .slice (.own k0) 0 1 (.exact 1))] (H0) := by
  have hlv := hv.live
  have nv := ent_len hv
  obtain ⟨cR, hcR⟩ : ∃ cR, cR = itemC rootP namO := ⟨_, rfl⟩
  rw [← hcR] at hok hrest
  change Awp _ _ _ (Code.seq _ _) _ _ _
  refine awp_seq ?_
  -- region 3  law.go:24
  refine awp_rseq [0, 2, 3, 4, 5] (by rfl) fun K hK => ?_
  simp (decide := true) only [aOps_nil, ev, absV, absS, putD, Slots.put, Slots.keep, if_true, if_false, true_and, ↓ap_assign, pop_assign]
  apply hK; clear hK K
  refine awp_block ?_
  refine awp_loopG [0, 2, 3, 4, 5] (fun s : OfG => [(0, v), (2, .ptr (.own ka) 0), (3, .ptr (.own kb) 0), (4, .slice (.own s.k) 0 s.l.length s.c), (5, .int .i64 s.i)]) (fun s : OfG => s.H) (fun s : OfG => OfOk h ka kb cR es s) (fun s : OfG => 20 - s.i) ⟨0, H0, k0, .exact 1, [(rootP, namO)]⟩ (by rfl) (Sub.refl _) hok ?_
  rintro ⟨i, H, kr, c, l⟩ ⟨⟨hi1, hi2⟩, hs_H, eb_a, eb_b, eb_r, ⟨hnr, ne_r_a, ne_r_b⟩, hcap, heq, hlen, hoth⟩
  simp only at hi1 hi2 hs_H eb_a eb_b eb_r hnr ne_r_a ne_r_b hcap heq hlen hoth ⊢
  have hin := items_len l
  obtain ⟨hal, hsc⟩ := row_live hoth
  have hwd := it_wide (l := l)
  have hLr : IsL w₀ H 22 (.slice (.own kr) 0 l.length c) (l.map itC) := by
    have := IsL.own (w₀ := w₀) (xs := l.map itC) eb_r hwd rfl hal c (capOk_of hcap)
    rwa [List.length_map] at this
  have nl := it_len hLr
  have hcaR : cellsAt w₀ H (.own kb) 0 22 = [.str [82], .int .i64 1, .int .i64 (-1), .int .u8 0, .int .u8 0, .str [], .int .i64 0, .int .i64 0, .bool false, .bool false, .bool false, .bool false, .bool false, .int .i64 0, .int .i64 0, .int .i64 1, .int .i64 0, .int .i64 (-1), .int .i64 (-1), .int .i64 (-1), .int .i64 (-1), .nilSlice] := by
    rw [cellsAt_own eb_b 0 22 (by rw [hcR]; decide), List.drop_zero, hcR]
    rfl
  refine awp_seq ?_
  -- region 4  law.go:24
  refine awp_rseq [0, 2, 3, 4, 5, 20] (by rfl) fun K hK => ?_
  simp (decide := true) only [aOps_nil, ev, absV, absS, putD, Slots.put, Slots.get, Slots.keep, if_true, if_false, true_and, ↓ap_move, pop_move, ↓ap_len, pop_len, ↓ap_binOp, pop_binOp, isNilC_tmp, cond_false, pBinX_int, pI_lss, ↓ag_move, agP, agQ_some, nthDst, gKnown_bool, guardB_bool_true, implies_true, ↓ag_binOp, isNilC_int, cv_binl, cp_binl, ↓ap_pick, pop_pick, pPick_bool, pickV_cond_l, pickV_and, nv]
  apply hK; clear hK K
  refine awp_cond (b := _) rfl (fun hb1 => ?_) (fun hb1 => ?_)
  · try simp only [decide_eq_true_eq, Bool.and_eq_true] at hb1
    have hi' : i < es.length := by omega
    obtain ⟨lce, oe, ce, rfl⟩ := ent_open hv (by omega)
    have hgd : Prs.Good (items l) := by rw [heq]; exact grow_good _ root_good
    obtain ⟨e, he⟩ : ∃ e, e = es.getD i default := ⟨_, rfl⟩
    have hek : EntOk e := hes e (by rw [he, List.getD, List.getElem?_eq_getElem hi']; exact List.getElem_mem hi')
    obtain ⟨b1, b2, b3, b4⟩ := hek
    have hm4 : Int.tmod (e.level : Int) 4 = ((e.level % 4 : Nat) : Int) := by rw [Int.tmod_eq_emod_of_nonneg (by omega)]; exact (Int.natCast_emod e.level 4).symm
    have hm5 : Int.tmod (e.name : Int) 5 = ((e.name % 5 : Nat) : Int) := by rw [Int.tmod_eq_emod_of_nonneg (by omega)]; exact (Int.natCast_emod e.name 5).symm
    have hm12 : Int.tmod (e.flag : Int) 12 = ((e.flag % 12 : Nat) : Int) := by rw [Int.tmod_eq_emod_of_nonneg (by omega)]; exact (Int.natCast_emod e.flag 12).symm
    obtain ⟨lv, hlv2⟩ : ∃ lv : Int, lv = 2 + ((e.level % 4 : Nat) : Int) := ⟨_, rfl⟩
    have hlvb : 2 ≤ lv ∧ lv ≤ 5 := by omega
    refine awp_skip ?_
    change Awp _ _ _ _ _ _ _
    refine awp_seq ?_
    refine awp_block ?_
    -- region 6  law.go:25
    refine awp_rseq [0, 2, 3, 4, 5, 6] (by rfl) fun K hK => ?_
    simp (decide := true) only [ev, putD, Slots.put, Slots.get, if_true, if_false, true_and, ↓ap_loadL, apL_mk, pLoad_agg ag44 sz44, lv_bool, lv_int, lv_str, lv_nilSlice, allLive, Bool.and_true, ↓hcaR]
    refine aOps_alloc ze44 (cs := [.str [], .int .i64 0, .int .i64 0, .int .u8 0, .int .u8 0, .str [], .int .i64 0, .int .i64 0, .bool false, .bool false, .bool false, .bool false, .bool false, .int .i64 0, .int .i64 0, .int .i64 0, .int .i64 0, .int .i64 0, .int .i64 0, .int .i64 0, .int .i64 0, .nilSlice]) (by rfl) fun k6q1 hk6q1 => ?_
    have hn_6q1 : H k6q1 = none := by first | assumption | (simp only [AHeap.set_none] at hk6q1; simp only [hk6q1])
    have hf_6q1 : h k6q1 = none := Sub.none hs_H hn_6q1
    have ne_6q1_a : k6q1 ≠ ka := AHeap.ne_some hn_6q1 eb_a
    have ne_6q1_b : k6q1 ≠ kb := AHeap.ne_some hn_6q1 eb_b
    have ne_6q1_r : k6q1 ≠ kr := AHeap.ne_some hn_6q1 eb_r
    refine aOps_store (by rfl) (by rfl) (by repeat (first | exact AHeap.set_same _ _ _ | assumption | refine (AHeap.set_ne _ _ (by first | assumption | exact Ne.symm (by assumption))).trans ?_)) sz44 (by rfl) (by rfl) (by first | exact Nat.le_refl _ | decide | (simp; done) | (simp; omega)) (Nat.zero_le _) (by first | rfl | (simp (decide := true) only [ev, putD, Slots.put, Slots.get, if_true, if_false, AVal.cells, allScal, Bool.and_true, Bool.true_and, sc_int, sc_str, sc_bool])) ?_
    simp only [AHeap.set_set, AVal.cells]
    simp (decide := true) only [aOps_nil, ev, putD, Slots.put, Slots.get, Slots.keep, if_true, if_false, setAt, List.set_cons_zero, List.set_cons_succ, Nat.zero_add, Nat.reduceAdd]
    apply hK; clear hK K
    have er : ∀ X, (rd w₀ (H.set k6q1 X) lce (oe + i * 4 + 0) = .int .u8 e.level ∧ rd w₀ (H.set k6q1 X) lce (oe + i * 4 + 3) = .int .u8 e.flag) ∧ ∀ Y k', (H.set k6q1 X) k' = none → rd w₀ ((H.set k6q1 X).set k' Y) lce (oe + i * 4 + 1) = .int .u8 e.name := by
      intro X
      have hX : Sub h (H.set k6q1 X) := Sub.set_off hs_H hf_6q1 X
      have q0 := ent_rd (hv.mono hX) hi' (j := 0) (by decide)
      have q3 := ent_rd (hv.mono hX) hi' (j := 3) (by decide)
      rw [← he] at q0 q3
      refine ⟨⟨q0, q3⟩, fun Y k' hk' => ?_⟩
      have hY : Sub (H.set k6q1 X) ((H.set k6q1 X).set k' Y) := Sub.set hk'
      have q1 := ent_rd (hv.mono (hX.trans hY)) hi' (j := 1) (by decide) (w₀ := w₀)
      rw [← he] at q1
      exact q1
    have er0 := fun X => (er X).1.1
    have er3 := fun X => (er X).1.2
    -- region 7  law.go:26
    refine awp_rseq [0, 2, 3, 4, 5, 6] (by rfl) fun K hK => ?_
    simp (decide := true) only [ev, absV, absS, putD, Slots.put, Slots.get, if_true, if_false, true_and, ↓ap_move, pop_move, ↓ap_indexAddrL, apL_mk, pIndexAddr_slice Tryd.underlying23 sz58, ↓ap_fieldAddr, pop_fieldAddr, fa58_0, ↓ap_loadL, pLoad_one ag5, ↓ap_binOp, pop_binOp, isNilC_int, cond_false, pBinX_int, pI_rem, ↓ap_convert _ _ _ (es_int Tryd.underlying5 Tryd.underlying3), pop_convert, pConv_int Tryd.underlying5 Tryd.underlying3, isNilC_tmp, pI_add, fa44_1, Nat.zero_add, lv_int, er0, hm4, Int.toNat_natCast]
    try simp (disch := omega) only [wrap_i64]
    repeat (with_reducible refine And.intro ?_ ?_; · first | trivial | omega | (intro hg; simp only [Bool.and_eq_true, Bool.or_eq_true, Bool.not_eq_true', Bool.and_eq_false_iff, Bool.or_eq_false_iff, Bool.not_eq_false', decide_eq_true_eq, decide_eq_false_iff_not, eqNil] at hg; omega) )
    refine aOps_store (by rfl) (by rfl) (by repeat (first | exact AHeap.set_same _ _ _ | assumption | refine (AHeap.set_ne _ _ (by first | assumption | exact Ne.symm (by assumption))).trans ?_)) sz3 (by rfl) (by rfl) (by first | exact Nat.le_refl _ | decide | (simp; done) | (simp; omega)) (Nat.zero_le _) (by first | rfl | (simp (decide := true) only [ev, putD, Slots.put, Slots.get, if_true, if_false, AVal.cells, allScal, Bool.and_true, Bool.true_and, sc_int, sc_str, sc_bool])) ?_
    simp only [AHeap.set_set, AVal.cells]
    simp (decide := true) only [aOps_nil, ev, putD, Slots.get, Slots.keep, if_true, if_false, setAt, List.set_cons_zero, List.set_cons_succ]
    apply hK; clear hK K
    rw [← hlv2]
    -- region 8  law.go:27
    refine awp_rseq [0, 2, 3, 4, 5, 6] (by rfl) fun K hK => ?_
    refine aOps_buildSlice (cs := [.str [88], .str [89], .str [90], .str [71], .str [70, 73, 76, 76, 69, 82]]) (by kernel_rfl) fun k8q0 hk8q0 => ?_
    have ne_8q0_6q1 : k8q0 ≠ k6q1 := by simp only [AHeap.set_none] at hk8q0; simp only [hk8q0, ne_eq, not_false_eq_true]
    have hn_8q0 : H k8q0 = none := by first | assumption | (simp only [AHeap.set_none] at hk8q0; simp only [hk8q0])
    have hf_8q0 : h k8q0 = none := Sub.none hs_H hn_8q0
    have ne_8q0_a : k8q0 ≠ ka := AHeap.ne_some hn_8q0 eb_a
    have ne_8q0_b : k8q0 ≠ kb := AHeap.ne_some hn_8q0 eb_b
    have ne_8q0_r : k8q0 ≠ kr := AHeap.ne_some hn_8q0 eb_r
    simp (decide := true) only [ev, absV, absS, putD, Slots.put, Slots.get, if_true, if_false, true_and, ↓ap_move, pop_move, ↓ap_indexAddrL, apL_mk, pIndexAddr_slice Tryd.underlying23 sz58, ↓ap_fieldAddr, pop_fieldAddr, fa58_1, ↓ap_loadL, pLoad_one ag5, ↓ap_binOp, pop_binOp, isNilC_int, cond_false, pBinX_int, pI_rem, pIndexAddr_slice Tryd.underlying48 sz9, pLoad_one ag9, fa44_0, rd_any, Nat.zero_add, lv_int, lv_str, (er _).2 _ _ hk8q0, hm5, Nat.mul_one, nmE_get, Int.toNat_natCast]
    repeat (with_reducible refine And.intro ?_ ?_; · first | trivial | omega | (intro hg; simp only [Bool.and_eq_true, Bool.or_eq_true, Bool.not_eq_true', Bool.and_eq_false_iff, Bool.or_eq_false_iff, Bool.not_eq_false', decide_eq_true_eq, decide_eq_false_iff_not, eqNil] at hg; omega) )
    refine aOps_store (by rfl) (by rfl) (by repeat (first | exact AHeap.set_same _ _ _ | assumption | refine (AHeap.set_ne _ _ (by first | assumption | exact Ne.symm (by assumption))).trans ?_)) sz9 (by rfl) (by rfl) (by first | exact Nat.le_refl _ | decide | (simp; done) | (simp; omega)) (Nat.zero_le _) (by first | rfl | (simp (decide := true) only [ev, putD, Slots.put, Slots.get, if_true, if_false, AVal.cells, allScal, Bool.and_true, Bool.true_and, sc_int, sc_str, sc_bool])) ?_
    simp only [AVal.cells]
    simp (decide := true) only [aOps_nil, ev, putD, Slots.get, Slots.keep, if_true, if_false, setAt, List.set_cons_zero]
    apply hK; clear hK K
    -- region 9  law.go:28
    refine awp_rseq [0, 2, 3, 4, 5, 6] (by rfl) fun K hK => ?_
    simp (decide := true) only [ev, absV, absS, putD, Slots.put, Slots.get, if_true, if_false, true_and, ↓ap_move, pop_move, ↓ap_len, pop_len, pLen_slice Tryd.underlying25, ↓ap_binOp, pop_binOp, isNilC_int, cond_false, pBinX_int, pI_sub, ↓ap_fieldAddr, pop_fieldAddr, fa44_2, Nat.zero_add]
    try simp (disch := omega) only [wrap_i64]
    refine aOps_store (by rfl) (by rfl) (by repeat (first | exact AHeap.set_same _ _ _ | assumption | refine (AHeap.set_ne _ _ (by first | assumption | exact Ne.symm (by assumption))).trans ?_)) sz3 (by rfl) (by rfl) (by first | exact Nat.le_refl _ | decide | (simp; done) | (simp; omega)) (Nat.zero_le _) (by first | rfl | (simp (decide := true) only [ev, putD, Slots.put, Slots.get, if_true, if_false, AVal.cells, allScal, Bool.and_true, Bool.true_and, sc_int, sc_str, sc_bool])) ?_
    simp only [AHeap.set_set, AVal.cells]
    simp (decide := true) only [aOps_nil, ev, putD, Slots.get, Slots.keep, if_true, if_false, setAt, List.set_cons_zero, List.set_cons_succ]
    apply hK; clear hK K
    refine awp_seq ?_
    refine awp_block ?_
    refine awp_loopG [0, 2, 3, 4, 5, 6] (fun p : Int => [(0, .slice lce oe es.length ce), (2, .ptr (.own ka) 0), (3, .ptr (.own kb) 0), (4, .slice (.own kr) 0 l.length c), (5, .int .i64 i), (6, .ptr (.own k6q1) 0)]) (fun p : Int => H.set k6q1 ⟨[.str (nmE e.name), .int .i64 lv, .int .i64 p, .int .u8 0, .int .u8 0, .str [], .int .i64 0, .int .i64 0, .bool false, .bool false, .bool false, .bool false, .bool false, .int .i64 0, .int .i64 0, .int .i64 1, .int .i64 0, .int .i64 (-1), .int .i64 (-1), .int .i64 (-1), .int .i64 (-1), .nilSlice], 0⟩) (fun p : Int => 0 ≤ p ∧ p < l.length ∧ searchE (items l) lv (items l).length p = searchE (items l) lv (items l).length ((l.length : Int) - 1)) (fun p : Int => p.toNat) ((l.length : Int) - 1) (by rfl) (by repeat (first | exact Sub.refl _ | assumption | refine Sub.set_both ?_ _ _ | refine Sub.trans_set ?_ (by repeat (first | assumption | refine (AHeap.set_ne _ _ (by first | assumption | exact Ne.symm (by assumption))).trans ?_)))) ⟨by omega, by omega, rfl⟩ ?_
    rintro p ⟨hp0, hp1, hps⟩
    have hrl := it_rd hLr (i := p.toNat) (by omega) (j := 1) (by decide)
    have hrp := it_rd hLr (i := p.toNat) (by omega) (j := 2) (by decide)
    rw [Nat.zero_add] at hrl hrp
    obtain ⟨⟨x, q⟩, hx⟩ : ∃ a, l.getD p.toNat default = a := ⟨_, rfl⟩
    rw [hx] at hrl hrp
    have hrl' : (l.map itC).flatten.getD (p.toNat * 22 + 1) .dead = .int .i64 x.level := (rd_own w₀ eb_r _).symm.trans hrl
    have hrp' : (l.map itC).flatten.getD (p.toNat * 22 + 2) .dead = .int .i64 x.parent := (rd_own w₀ eb_r _).symm.trans hrp
    have hxi : (items l).getD p.toNat default = x := by rw [items_getD, hx]
    refine awp_seq ?_
    -- region 10  law.go:29
    refine awp_dseq_all [0, 2, 3, 4, 5, 6, 55] mixed (by kernel_rfl) (by rfl) (by rfl) fun K hK => ?_
    simp (decide := true) only [aOps_nil, ev, putD, Slots.put, Slots.get, Slots.keep, if_true, if_false, true_and, ↓ap_move, pop_move, ↓ap_fieldAddr, pop_fieldAddr, fa44_2, ↓ap_loadL, apL_mk, pLoad_one ag3, ↓ap_indexAddrL, pIndexAddr_slice Tryd.underlying25 sz44, fa44_1, ↓ap_binOp, pop_binOp, isNilC_tmp, cond_false, pBinX_int, pI_geq, rd_ne', ne_eq, not_false_eq_true, ne_6q1_r.symm, rd_own w₀ eb_r, rd_any, List.getD_cons_zero, List.getD_cons_succ, Nat.zero_add, lv_int, hrl']
    repeat (with_reducible refine And.intro ?_ ?_; · first | trivial | omega | (intro hg; simp only [Bool.and_eq_true, Bool.or_eq_true, Bool.not_eq_true', Bool.and_eq_false_iff, Bool.or_eq_false_iff, Bool.not_eq_false', decide_eq_true_eq, decide_eq_false_iff_not, eqNil] at hg; omega) )
    apply hK; clear hK K
    refine awp_cond (b := _) rfl (fun hb2 => ?_) (fun hb2 => ?_)
    · try simp only [decide_eq_true_eq] at hb2
      obtain ⟨s1, s2, s3⟩ := search_step hgd hlvb.1 hp0 (by rw [hin]; exact hp1) (by rw [hxi]; exact hb2)
      rw [hxi] at s1 s2 s3
      refine awp_skip ?_
      change Awp _ _ _ _ _ _ _
      refine awp_block ?_
      -- region 11  law.go:30
      refine awp_r [0, 2, 3, 4, 5, 6] (by rfl) ?_
      simp (decide := true) only [ev, putD, Slots.put, Slots.get, if_true, if_false, true_and, ↓ap_move, pop_move, ↓ap_fieldAddr, pop_fieldAddr, fa44_2, ↓ap_loadL, apL_mk, pLoad_one ag3, ↓ap_indexAddrL, pIndexAddr_slice Tryd.underlying25 sz44, rd_ne', ne_eq, not_false_eq_true, ne_6q1_r.symm, rd_own w₀ eb_r, rd_any, List.getD_cons_zero, List.getD_cons_succ, Nat.zero_add, lv_int, hrp']
      repeat (with_reducible refine And.intro ?_ ?_; · first | trivial | omega | (intro hg; simp only [Bool.and_eq_true, Bool.or_eq_true, Bool.not_eq_true', Bool.and_eq_false_iff, Bool.or_eq_false_iff, Bool.not_eq_false', decide_eq_true_eq, decide_eq_false_iff_not, eqNil] at hg; omega) )
      refine aOps_store (by rfl) (by rfl) (by repeat (first | exact AHeap.set_same _ _ _ | assumption | refine (AHeap.set_ne _ _ (by first | assumption | exact Ne.symm (by assumption))).trans ?_)) sz3 (by rfl) (by rfl) (by first | exact Nat.le_refl _ | decide | (simp; done) | (simp; omega)) (Nat.zero_le _) (by first | rfl | (simp (decide := true) only [ev, putD, Slots.put, Slots.get, if_true, if_false, AVal.cells, allScal, Bool.and_true, Bool.true_and, sc_int, sc_str, sc_bool])) ?_
      simp only [AHeap.set_set, AVal.cells]
      simp (decide := true) only [aOps_nil, ev, putD, Slots.get, Slots.keep, if_true, if_false, setAt, List.set_cons_zero, List.set_cons_succ]
      try simp only [thenA_normal, inBlockA_normal]
      exact ⟨x.parent, rfl, Sub.refl _, ⟨s2, by omega, by rw [← s1]; exact hps⟩, by omega⟩
    · try simp only [decide_eq_false_iff_not] at hb2
      have hT := search_stop (l := items l) (lv := lv) (p := p) (by rw [hin]; omega) (by rw [hxi]; exact hb2)
      rw [hT, hin] at hps
      have hpl : plainE (items l) e = ⟨nmE e.name, lv, p, 0, 1, -1, -1⟩ := by
        unfold plainE rootP
        rw [hin, ← hlv2, ← hps]
      refine awp_exit ?_
      change Awp _ _ _ _ _ _ _
      refine awp_seq ?_
      -- region 12  law.go:32
      refine awp_rseq [0, 2, 3, 4, 5, 6, 68] (by rfl) fun K hK => ?_
      simp (decide := true) only [aOps_nil, ev, absV, absS, putD, Slots.put, Slots.get, Slots.keep, if_true, if_false, true_and, ↓ap_move, pop_move, ↓ap_indexAddrL, apL_mk, pIndexAddr_slice Tryd.underlying23 sz58, ↓ap_fieldAddr, pop_fieldAddr, fa58_3, ↓ap_loadL, pLoad_one ag5, ↓ap_binOp, pop_binOp, isNilC_int, cond_false, pBinX_int, pI_rem, lv_int, er3, hm12, Int.toNat_natCast]
      repeat (with_reducible refine And.intro ?_ ?_; · first | trivial | omega | (intro hg; simp only [Bool.and_eq_true, Bool.or_eq_true, Bool.not_eq_true', Bool.and_eq_false_iff, Bool.or_eq_false_iff, Bool.not_eq_false', decide_eq_true_eq, decide_eq_false_iff_not, eqNil] at hg; omega) )
      apply hK; clear hK K
      refine awp_block ?_
      -- region 13  law.go:33
      refine awp_rseq [0, 2, 3, 4, 5, 6, 68, 69] (by rfl) fun K hK => ?_
      simp (decide := true) only [aOps_nil, ev, absV, absS, putD, Slots.put, Slots.get, Slots.keep, if_true, if_false, true_and, ↓ap_binOp, pop_binOp, isNilC_int, cond_false, pBinX_int, pI_eql, ↓ap_assign, pop_assign]
      apply hK; clear hK K
      refine awp_cond (b := _) rfl (fun hb3 => ?_) (fun hb3 => ?_)
      · try simp only [decide_eq_true_eq] at hb3
        have hst : stepE (items l) e = ⟨nmE e.name, lv, p, 0, 3, -1, -1⟩ := by
          unfold stepE
          rw [show e.flag % 12 = 0 by omega, hpl]
          rfl
        -- region 14  law.go:34
        refine awp_r [0, 2, 3, 4, 5, 6] (by rfl) ?_
        simp (decide := true) only [ev, putD, Slots.put, Slots.get, if_true, if_false, true_and, ↓ap_fieldAddr, pop_fieldAddr, fa44_5, Nat.zero_add]
        refine aOps_store (by rfl) (by rfl) (by repeat (first | exact AHeap.set_same _ _ _ | assumption | refine (AHeap.set_ne _ _ (by first | assumption | exact Ne.symm (by assumption))).trans ?_)) sz3 (by rfl) (by rfl) (by first | exact Nat.le_refl _ | decide | (simp; done) | (simp; omega)) (Nat.zero_le _) (by first | rfl | (simp (decide := true) only [ev, putD, Slots.put, Slots.get, if_true, if_false, AVal.cells, allScal, Bool.and_true, Bool.true_and, sc_int, sc_str, sc_bool])) ?_
        simp only [AHeap.set_set, AVal.cells]
        simp (decide := true) only [aOps_nil, ev, absV, absS, putD, Slots.keep, if_true, if_false, setAt, List.set_cons_zero, List.set_cons_succ]
        change Awp _ _ _ _ _ _ _
        -- region 24  law.go:46
        refine awp_r [0, 2, 3, 4, 5] (by rfl) ?_
        simp (decide := true) only [ev, putD, Slots.put, Slots.get, if_true, if_false, true_and, ↓ap_move, pop_move, ↓ap_loadL, apL_mk, pLoad_agg ag44 sz44, rd_any, cellsAt, List.getD_cons_zero, List.getD_cons_succ, Nat.zero_add, Nat.reduceAdd, lv_bool, lv_int, lv_str, lv_nilSlice, allLive, Bool.and_true]
        refine aOps_buildSlice (cs := itC (stepE (items l) e, namO)) (by rw [hst]; kernel_rfl) fun k24q2 hk24q2 => ?_
        have hn_24q2 : H k24q2 = none := by (simp only [AHeap.set_none] at hk24q2; simp only [hk24q2])
        have ne_24q2_6q1 : k24q2 ≠ k6q1 := by (simp only [AHeap.set_none] at hk24q2; simp only [hk24q2, ne_eq, not_false_eq_true])
        have ne_24q2_r : k24q2 ≠ kr := AHeap.ne_some hn_24q2 eb_r
        refine aOps_appendRow (es := 22) (k := kr) (c := c) (xs := l.map itC) (ys := [itC (stepE (items l) e, namO)]) (by rfl) (by rfl) Tryd.underlying25 Tryd.underlying25 (fun k e => by cases e) sz44 by44 ze44 (by rfl) (by decide) (by rw [List.length_map]; rfl) hcap (by repeat (first | exact AHeap.set_same _ _ _ | assumption | refine (AHeap.set_ne _ _ (by first | assumption | exact Ne.symm (by assumption))).trans ?_)) hwd hal (by rfl) (IsL.own (b := ⟨itC (stepE (items l) e, namO), 0⟩) (by repeat (first | exact AHeap.set_same _ _ _ | assumption | refine (AHeap.set_ne _ _ (by first | assumption | exact Ne.symm (by assumption))).trans ?_)) (by intro x hx; rw [List.mem_singleton.1 hx]; rfl) (by simp) (by rw [hst]; rfl) (.exact 1) (Nat.le_refl _)) (by rw [hst]; rfl) (by simp) (by simp; omega) (by simp; omega) fun k24 h24 g1 g2 g3 => ?_
        simp (decide := true) only [aOps_nil, ev, putD, Slots.put, Slots.get, Slots.keep, if_true, if_false, true_and, ↓ap_assign, pop_assign]
        change Awp _ _ _ _ _ _ _
        -- region 5  law.go:24
        refine awp_r [0, 2, 3, 4, 5] (by rfl) ?_
        simp (decide := true) only [aOps_nil, ev, absV, absS, putD, Slots.put, Slots.get, Slots.keep, if_true, if_false, true_and, ↓ap_move, pop_move, ↓ap_binOp, pop_binOp, isNilC_int, cond_false, pBinX_int, pI_add, ↓ap_assign, pop_assign]
        try simp (disch := omega) only [wrap_i64]
        try simp only [thenA_normal]
        refine ⟨⟨i + 1, h24, k24, .grow 22, l ++ [(stepE (items l) e, namO)]⟩, ?_, Sub.refl _, of_step ⟨⟨hi1, hi2⟩, hs_H, eb_a, eb_b, eb_r, ⟨hnr, ne_r_a, ne_r_b⟩, hcap, heq, hlen, hoth⟩ hi' (by omega) he hn_6q1 hn_24q2 g1 g2 g3, by simp only; omega⟩
        simp only [List.length_map, List.length_append]
        rfl
      · try simp only [decide_eq_false_iff_not] at hb3
        -- region 15  law.go:35
        refine awp_rseq [0, 2, 3, 4, 5, 6, 68, 72] (by rfl) fun K hK => ?_
        simp (decide := true) only [aOps_nil, ev, absV, absS, putD, Slots.put, Slots.get, Slots.keep, if_true, if_false, true_and, ↓ap_binOp, pop_binOp, isNilC_int, cond_false, pBinX_int, pI_eql, ↓ap_assign, pop_assign]
        apply hK; clear hK K
        refine awp_cond (b := _) rfl (fun hb4 => ?_) (fun hb4 => ?_)
        · try simp only [decide_eq_true_eq] at hb4
          have hst : stepE (items l) e = ⟨nmE e.name, lv, p, 0, 1, -1, 0⟩ := by
            unfold stepE
            rw [show e.flag % 12 = 1 by omega, hpl]
            rfl
          -- region 16  law.go:36
          refine awp_r [0, 2, 3, 4, 5, 6] (by rfl) ?_
          simp (decide := true) only [ev, putD, Slots.put, Slots.get, if_true, if_false, true_and, ↓ap_fieldAddr, pop_fieldAddr, fa44_8, Nat.zero_add]
          refine aOps_store (by rfl) (by rfl) (by repeat (first | exact AHeap.set_same _ _ _ | assumption | refine (AHeap.set_ne _ _ (by first | assumption | exact Ne.symm (by assumption))).trans ?_)) sz3 (by rfl) (by rfl) (by first | exact Nat.le_refl _ | decide | (simp; done) | (simp; omega)) (Nat.zero_le _) (by first | rfl | (simp (decide := true) only [ev, putD, Slots.put, Slots.get, if_true, if_false, AVal.cells, allScal, Bool.and_true, Bool.true_and, sc_int, sc_str, sc_bool])) ?_
          simp only [AHeap.set_set, AVal.cells]
          simp (decide := true) only [aOps_nil, ev, absV, absS, putD, Slots.keep, if_true, if_false, setAt, List.set_cons_zero, List.set_cons_succ]
          change Awp _ _ _ _ _ _ _
          -- region 24  law.go:46
          refine awp_r [0, 2, 3, 4, 5] (by rfl) ?_
          simp (decide := true) only [ev, putD, Slots.put, Slots.get, if_true, if_false, true_and, ↓ap_move, pop_move, ↓ap_loadL, apL_mk, pLoad_agg ag44 sz44, rd_any, cellsAt, List.getD_cons_zero, List.getD_cons_succ, Nat.zero_add, Nat.reduceAdd, lv_bool, lv_int, lv_str, lv_nilSlice, allLive, Bool.and_true]
          refine aOps_buildSlice (cs := itC (stepE (items l) e, namO)) (by rw [hst]; kernel_rfl) fun k24q2 hk24q2 => ?_
          have hn_24q2 : H k24q2 = none := by (simp only [AHeap.set_none] at hk24q2; simp only [hk24q2])
          have ne_24q2_6q1 : k24q2 ≠ k6q1 := by (simp only [AHeap.set_none] at hk24q2; simp only [hk24q2, ne_eq, not_false_eq_true])
          have ne_24q2_r : k24q2 ≠ kr := AHeap.ne_some hn_24q2 eb_r
          refine aOps_appendRow (es := 22) (k := kr) (c := c) (xs := l.map itC) (ys := [itC (stepE (items l) e, namO)]) (by rfl) (by rfl) Tryd.underlying25 Tryd.underlying25 (fun k e => by cases e) sz44 by44 ze44 (by rfl) (by decide) (by rw [List.length_map]; rfl) hcap (by repeat (first | exact AHeap.set_same _ _ _ | assumption | refine (AHeap.set_ne _ _ (by first | assumption | exact Ne.symm (by assumption))).trans ?_)) hwd hal (by rfl) (IsL.own (b := ⟨itC (stepE (items l) e, namO), 0⟩) (by repeat (first | exact AHeap.set_same _ _ _ | assumption | refine (AHeap.set_ne _ _ (by first | assumption | exact Ne.symm (by assumption))).trans ?_)) (by intro x hx; rw [List.mem_singleton.1 hx]; rfl) (by simp) (by rw [hst]; rfl) (.exact 1) (Nat.le_refl _)) (by rw [hst]; rfl) (by simp) (by simp; omega) (by simp; omega) fun k24 h24 g1 g2 g3 => ?_
          simp (decide := true) only [aOps_nil, ev, putD, Slots.put, Slots.get, Slots.keep, if_true, if_false, true_and, ↓ap_assign, pop_assign]
          change Awp _ _ _ _ _ _ _
          -- region 5  law.go:24
          refine awp_r [0, 2, 3, 4, 5] (by rfl) ?_
          simp (decide := true) only [aOps_nil, ev, absV, absS, putD, Slots.put, Slots.get, Slots.keep, if_true, if_false, true_and, ↓ap_move, pop_move, ↓ap_binOp, pop_binOp, isNilC_int, cond_false, pBinX_int, pI_add, ↓ap_assign, pop_assign]
          try simp (disch := omega) only [wrap_i64]
          try simp only [thenA_normal]
          refine ⟨⟨i + 1, h24, k24, .grow 22, l ++ [(stepE (items l) e, namO)]⟩, ?_, Sub.refl _, of_step ⟨⟨hi1, hi2⟩, hs_H, eb_a, eb_b, eb_r, ⟨hnr, ne_r_a, ne_r_b⟩, hcap, heq, hlen, hoth⟩ hi' (by omega) he hn_6q1 hn_24q2 g1 g2 g3, by simp only; omega⟩
          simp only [List.length_map, List.length_append]
          rfl
        · try simp only [decide_eq_false_iff_not] at hb4
          -- region 17  law.go:37
          refine awp_rseq [0, 2, 3, 4, 5, 6, 68, 75] (by rfl) fun K hK => ?_
          simp (decide := true) only [aOps_nil, ev, absV, absS, putD, Slots.put, Slots.get, Slots.keep, if_true, if_false, true_and, ↓ap_binOp, pop_binOp, isNilC_int, cond_false, pBinX_int, pI_eql, ↓ap_assign, pop_assign]
          apply hK; clear hK K
          refine awp_cond (b := _) rfl (fun hb5 => ?_) (fun hb5 => ?_)
          · try simp only [decide_eq_true_eq] at hb5
            have hst : stepE (items l) e = ⟨nmE e.name, lv, p, 0, 1, 0, -1⟩ := by
              unfold stepE
              rw [show e.flag % 12 = 2 by omega, hpl]
              rfl
            -- region 18  law.go:38
            refine awp_r [0, 2, 3, 4, 5, 6] (by rfl) ?_
            simp (decide := true) only [ev, putD, Slots.put, Slots.get, if_true, if_false, true_and, ↓ap_fieldAddr, pop_fieldAddr, fa44_7, Nat.zero_add]
            refine aOps_store (by rfl) (by rfl) (by repeat (first | exact AHeap.set_same _ _ _ | assumption | refine (AHeap.set_ne _ _ (by first | assumption | exact Ne.symm (by assumption))).trans ?_)) sz3 (by rfl) (by rfl) (by first | exact Nat.le_refl _ | decide | (simp; done) | (simp; omega)) (Nat.zero_le _) (by first | rfl | (simp (decide := true) only [ev, putD, Slots.put, Slots.get, if_true, if_false, AVal.cells, allScal, Bool.and_true, Bool.true_and, sc_int, sc_str, sc_bool])) ?_
            simp only [AHeap.set_set, AVal.cells]
            simp (decide := true) only [aOps_nil, ev, absV, absS, putD, Slots.keep, if_true, if_false, setAt, List.set_cons_zero, List.set_cons_succ]
            change Awp _ _ _ _ _ _ _
            -- region 24  law.go:46
            refine awp_r [0, 2, 3, 4, 5] (by rfl) ?_
            simp (decide := true) only [ev, putD, Slots.put, Slots.get, if_true, if_false, true_and, ↓ap_move, pop_move, ↓ap_loadL, apL_mk, pLoad_agg ag44 sz44, rd_any, cellsAt, List.getD_cons_zero, List.getD_cons_succ, Nat.zero_add, Nat.reduceAdd, lv_bool, lv_int, lv_str, lv_nilSlice, allLive, Bool.and_true]
            refine aOps_buildSlice (cs := itC (stepE (items l) e, namO)) (by rw [hst]; kernel_rfl) fun k24q2 hk24q2 => ?_
            have hn_24q2 : H k24q2 = none := by (simp only [AHeap.set_none] at hk24q2; simp only [hk24q2])
            have ne_24q2_6q1 : k24q2 ≠ k6q1 := by (simp only [AHeap.set_none] at hk24q2; simp only [hk24q2, ne_eq, not_false_eq_true])
            have ne_24q2_r : k24q2 ≠ kr := AHeap.ne_some hn_24q2 eb_r
            refine aOps_appendRow (es := 22) (k := kr) (c := c) (xs := l.map itC) (ys := [itC (stepE (items l) e, namO)]) (by rfl) (by rfl) Tryd.underlying25 Tryd.underlying25 (fun k e => by cases e) sz44 by44 ze44 (by rfl) (by decide) (by rw [List.length_map]; rfl) hcap (by repeat (first | exact AHeap.set_same _ _ _ | assumption | refine (AHeap.set_ne _ _ (by first | assumption | exact Ne.symm (by assumption))).trans ?_)) hwd hal (by rfl) (IsL.own (b := ⟨itC (stepE (items l) e, namO), 0⟩) (by repeat (first | exact AHeap.set_same _ _ _ | assumption | refine (AHeap.set_ne _ _ (by first | assumption | exact Ne.symm (by assumption))).trans ?_)) (by intro x hx; rw [List.mem_singleton.1 hx]; rfl) (by simp) (by rw [hst]; rfl) (.exact 1) (Nat.le_refl _)) (by rw [hst]; rfl) (by simp) (by simp; omega) (by simp; omega) fun k24 h24 g1 g2 g3 => ?_
            simp (decide := true) only [aOps_nil, ev, putD, Slots.put, Slots.get, Slots.keep, if_true, if_false, true_and, ↓ap_assign, pop_assign]
            change Awp _ _ _ _ _ _ _
            -- region 5  law.go:24
            refine awp_r [0, 2, 3, 4, 5] (by rfl) ?_
            simp (decide := true) only [aOps_nil, ev, absV, absS, putD, Slots.put, Slots.get, Slots.keep, if_true, if_false, true_and, ↓ap_move, pop_move, ↓ap_binOp, pop_binOp, isNilC_int, cond_false, pBinX_int, pI_add, ↓ap_assign, pop_assign]
            try simp (disch := omega) only [wrap_i64]
            try simp only [thenA_normal]
            refine ⟨⟨i + 1, h24, k24, .grow 22, l ++ [(stepE (items l) e, namO)]⟩, ?_, Sub.refl _, of_step ⟨⟨hi1, hi2⟩, hs_H, eb_a, eb_b, eb_r, ⟨hnr, ne_r_a, ne_r_b⟩, hcap, heq, hlen, hoth⟩ hi' (by omega) he hn_6q1 hn_24q2 g1 g2 g3, by simp only; omega⟩
            simp only [List.length_map, List.length_append]
            rfl
          · try simp only [decide_eq_false_iff_not] at hb5
            -- region 19  law.go:39
            refine awp_rseq [0, 2, 3, 4, 5, 6, 78] (by rfl) fun K hK => ?_
            simp (decide := true) only [aOps_nil, ev, absV, absS, putD, Slots.put, Slots.get, Slots.keep, if_true, if_false, true_and, ↓ap_binOp, pop_binOp, isNilC_int, cond_false, pBinX_int, pI_eql, ↓ap_assign, pop_assign]
            apply hK; clear hK K
            refine awp_cond (b := _) rfl (fun hb6 => ?_) (fun hb6 => ?_)
            · try simp only [decide_eq_true_eq] at hb6
              have hrl2 := it_rd hLr (i := l.length - 1) (by omega) (j := 1) (by decide)
              have hrp2 := it_rd hLr (i := l.length - 1) (by omega) (j := 2) (by decide)
              rw [Nat.zero_add] at hrl2 hrp2
              obtain ⟨⟨y, qy⟩, hy⟩ : ∃ a, l.getD (l.length - 1) default = a := ⟨_, rfl⟩
              rw [hy] at hrl2 hrp2
              have htn : ((l.length : Int) - 1).toNat = l.length - 1 := by omega
              have hrl2' : (l.map itC).flatten.getD ((l.length - 1) * 22 + 1) .dead = .int .i64 y.level := (rd_own w₀ eb_r _).symm.trans hrl2
              have hrp2' : (l.map itC).flatten.getD ((l.length - 1) * 22 + 2) .dead = .int .i64 y.parent := (rd_own w₀ eb_r _).symm.trans hrp2
              have hyl : lvl (items l) (((items l).length : Int) - 1) = y.level ∧ par (items l) (((items l).length : Int) - 1) = y.parent := by
                unfold lvl par
                rw [hin, htn, items_getD, hy]
                exact ⟨rfl, rfl⟩
              -- region 20  law.go:40
              refine awp_rseq [0, 2, 3, 4, 5, 6] (by rfl) fun K hK => ?_
              simp (decide := true) only [ev, putD, Slots.put, Slots.get, if_true, if_false, true_and, ↓ap_fieldAddr, pop_fieldAddr, fa44_1, Nat.zero_add]
              refine aOps_store (by rfl) (by rfl) (by repeat (first | exact AHeap.set_same _ _ _ | assumption | refine (AHeap.set_ne _ _ (by first | assumption | exact Ne.symm (by assumption))).trans ?_)) sz3 (by rfl) (by rfl) (by first | exact Nat.le_refl _ | decide | (simp; done) | (simp; omega)) (Nat.zero_le _) (by first | rfl | (simp (decide := true) only [ev, putD, Slots.put, Slots.get, if_true, if_false, AVal.cells, allScal, Bool.and_true, Bool.true_and, sc_int, sc_str, sc_bool])) ?_
              simp only [AHeap.set_set, AVal.cells]
              simp (decide := true) only [aOps_nil, ev, absV, absS, putD, Slots.keep, if_true, if_false, setAt, List.set_cons_zero, List.set_cons_succ]
              apply hK; clear hK K
              -- region 21  law.go:41
              refine awp_rseq [0, 2, 3, 4, 5, 6] (by rfl) fun K hK => ?_
              simp (decide := true) only [ev, absV, absS, putD, Slots.put, Slots.get, if_true, if_false, true_and, ↓ap_move, pop_move, ↓ap_len, pop_len, pLen_slice Tryd.underlying25, ↓ap_binOp, pop_binOp, isNilC_int, cond_false, pBinX_int, pI_sub, ↓ap_fieldAddr, pop_fieldAddr, fa44_2, Nat.zero_add]
              try simp (disch := omega) only [wrap_i64]
              refine aOps_store (by rfl) (by rfl) (by repeat (first | exact AHeap.set_same _ _ _ | assumption | refine (AHeap.set_ne _ _ (by first | assumption | exact Ne.symm (by assumption))).trans ?_)) sz3 (by rfl) (by rfl) (by first | exact Nat.le_refl _ | decide | (simp; done) | (simp; omega)) (Nat.zero_le _) (by first | rfl | (simp (decide := true) only [ev, putD, Slots.put, Slots.get, if_true, if_false, AVal.cells, allScal, Bool.and_true, Bool.true_and, sc_int, sc_str, sc_bool])) ?_
              simp only [AHeap.set_set, AVal.cells]
              simp (decide := true) only [aOps_nil, ev, putD, Slots.get, Slots.keep, if_true, if_false, setAt, List.set_cons_zero, List.set_cons_succ]
              apply hK; clear hK K
              -- region 22  law.go:42
              refine awp_rseq [0, 2, 3, 4, 5, 6, 91] (by rfl) fun K hK => ?_
              simp (decide := true) only [aOps_nil, ev, absV, absS, putD, Slots.put, Slots.get, Slots.keep, if_true, if_false, true_and, ↓ap_move, pop_move, ↓ap_fieldAddr, pop_fieldAddr, fa44_2, ↓ap_loadL, apL_mk, pLoad_one ag3, ↓ap_indexAddrL, pIndexAddr_slice Tryd.underlying25 sz44, fa44_1, ↓ap_binOp, pop_binOp, isNilC_int, cond_false, pBinX_int, pI_eql, rd_ne', ne_eq, not_false_eq_true, ne_6q1_r.symm, rd_own w₀ eb_r, rd_any, List.getD_cons_zero, List.getD_cons_succ, Nat.zero_add, lv_int, htn, hrl2']
              repeat (with_reducible refine And.intro ?_ ?_; · first | trivial | omega | (intro hg; simp only [Bool.and_eq_true, Bool.or_eq_true, Bool.not_eq_true', Bool.and_eq_false_iff, Bool.or_eq_false_iff, Bool.not_eq_false', decide_eq_true_eq, decide_eq_false_iff_not, eqNil] at hg; omega) )
              apply hK; clear hK K
              refine awp_cond (b := _) rfl (fun hb7 => ?_) (fun hb7 => ?_)
              · try simp only [decide_eq_true_eq] at hb7
                have hst : stepE (items l) e = ⟨nmE e.name, 88, y.parent, 0, 1, -1, -1⟩ := by
                  unfold stepE
                  rw [show e.flag % 12 = 3 by omega, hpl]
                  simp only
                  rw [hyl.1, hyl.2, if_pos hb7]
                -- region 23  law.go:43
                refine awp_r [0, 2, 3, 4, 5, 6] (by rfl) ?_
                simp (decide := true) only [ev, putD, Slots.put, Slots.get, if_true, if_false, true_and, ↓ap_move, pop_move, ↓ap_fieldAddr, pop_fieldAddr, fa44_2, ↓ap_loadL, apL_mk, pLoad_one ag3, ↓ap_indexAddrL, pIndexAddr_slice Tryd.underlying25 sz44, rd_ne', ne_eq, not_false_eq_true, ne_6q1_r.symm, rd_own w₀ eb_r, rd_any, List.getD_cons_zero, List.getD_cons_succ, Nat.zero_add, lv_int, htn, hrp2']
                repeat (with_reducible refine And.intro ?_ ?_; · first | trivial | omega | (intro hg; simp only [Bool.and_eq_true, Bool.or_eq_true, Bool.not_eq_true', Bool.and_eq_false_iff, Bool.or_eq_false_iff, Bool.not_eq_false', decide_eq_true_eq, decide_eq_false_iff_not, eqNil] at hg; omega) )
                refine aOps_store (by rfl) (by rfl) (by repeat (first | exact AHeap.set_same _ _ _ | assumption | refine (AHeap.set_ne _ _ (by first | assumption | exact Ne.symm (by assumption))).trans ?_)) sz3 (by rfl) (by rfl) (by first | exact Nat.le_refl _ | decide | (simp; done) | (simp; omega)) (Nat.zero_le _) (by first | rfl | (simp (decide := true) only [ev, putD, Slots.put, Slots.get, if_true, if_false, AVal.cells, allScal, Bool.and_true, Bool.true_and, sc_int, sc_str, sc_bool])) ?_
                simp only [AHeap.set_set, AVal.cells]
                simp (decide := true) only [aOps_nil, ev, putD, Slots.get, Slots.keep, if_true, if_false, setAt, List.set_cons_zero, List.set_cons_succ]
                change Awp _ _ _ _ _ _ _
                -- region 24  law.go:46
                refine awp_r [0, 2, 3, 4, 5] (by rfl) ?_
                simp (decide := true) only [ev, putD, Slots.put, Slots.get, if_true, if_false, true_and, ↓ap_move, pop_move, ↓ap_loadL, apL_mk, pLoad_agg ag44 sz44, rd_any, cellsAt, List.getD_cons_zero, List.getD_cons_succ, Nat.zero_add, Nat.reduceAdd, lv_bool, lv_int, lv_str, lv_nilSlice, allLive, Bool.and_true]
                refine aOps_buildSlice (cs := itC (stepE (items l) e, namO)) (by rw [hst]; kernel_rfl) fun k24q2 hk24q2 => ?_
                have hn_24q2 : H k24q2 = none := by (simp only [AHeap.set_none] at hk24q2; simp only [hk24q2])
                have ne_24q2_6q1 : k24q2 ≠ k6q1 := by (simp only [AHeap.set_none] at hk24q2; simp only [hk24q2, ne_eq, not_false_eq_true])
                have ne_24q2_r : k24q2 ≠ kr := AHeap.ne_some hn_24q2 eb_r
                refine aOps_appendRow (es := 22) (k := kr) (c := c) (xs := l.map itC) (ys := [itC (stepE (items l) e, namO)]) (by rfl) (by rfl) Tryd.underlying25 Tryd.underlying25 (fun k e => by cases e) sz44 by44 ze44 (by rfl) (by decide) (by rw [List.length_map]; rfl) hcap (by repeat (first | exact AHeap.set_same _ _ _ | assumption | refine (AHeap.set_ne _ _ (by first | assumption | exact Ne.symm (by assumption))).trans ?_)) hwd hal (by rfl) (IsL.own (b := ⟨itC (stepE (items l) e, namO), 0⟩) (by repeat (first | exact AHeap.set_same _ _ _ | assumption | refine (AHeap.set_ne _ _ (by first | assumption | exact Ne.symm (by assumption))).trans ?_)) (by intro x hx; rw [List.mem_singleton.1 hx]; rfl) (by simp) (by rw [hst]; rfl) (.exact 1) (Nat.le_refl _)) (by rw [hst]; rfl) (by simp) (by simp; omega) (by simp; omega) fun k24 h24 g1 g2 g3 => ?_
                simp (decide := true) only [aOps_nil, ev, putD, Slots.put, Slots.get, Slots.keep, if_true, if_false, true_and, ↓ap_assign, pop_assign]
                change Awp _ _ _ _ _ _ _
                -- region 5  law.go:24
                refine awp_r [0, 2, 3, 4, 5] (by rfl) ?_
                simp (decide := true) only [aOps_nil, ev, absV, absS, putD, Slots.put, Slots.get, Slots.keep, if_true, if_false, true_and, ↓ap_move, pop_move, ↓ap_binOp, pop_binOp, isNilC_int, cond_false, pBinX_int, pI_add, ↓ap_assign, pop_assign]
                try simp (disch := omega) only [wrap_i64]
                try simp only [thenA_normal]
                refine ⟨⟨i + 1, h24, k24, .grow 22, l ++ [(stepE (items l) e, namO)]⟩, ?_, Sub.refl _, of_step ⟨⟨hi1, hi2⟩, hs_H, eb_a, eb_b, eb_r, ⟨hnr, ne_r_a, ne_r_b⟩, hcap, heq, hlen, hoth⟩ hi' (by omega) he hn_6q1 hn_24q2 g1 g2 g3, by simp only; omega⟩
                simp only [List.length_map, List.length_append]
                rfl
              · try simp only [decide_eq_false_iff_not] at hb7
                have hst : stepE (items l) e = ⟨nmE e.name, 88, (l.length : Int) - 1, 0, 1, -1, -1⟩ := by
                  unfold stepE
                  rw [show e.flag % 12 = 3 by omega, hpl]
                  simp only
                  rw [hyl.1, if_neg hb7, hin]
                refine awp_skip ?_
                change Awp _ _ _ _ _ _ _
                -- region 24  law.go:46
                refine awp_r [0, 2, 3, 4, 5] (by rfl) ?_
                simp (decide := true) only [ev, putD, Slots.put, Slots.get, if_true, if_false, true_and, ↓ap_move, pop_move, ↓ap_loadL, apL_mk, pLoad_agg ag44 sz44, rd_any, cellsAt, List.getD_cons_zero, List.getD_cons_succ, Nat.zero_add, Nat.reduceAdd, lv_bool, lv_int, lv_str, lv_nilSlice, allLive, Bool.and_true]
                refine aOps_buildSlice (cs := itC (stepE (items l) e, namO)) (by rw [hst]; kernel_rfl) fun k24q2 hk24q2 => ?_
                have hn_24q2 : H k24q2 = none := by (simp only [AHeap.set_none] at hk24q2; simp only [hk24q2])
                have ne_24q2_6q1 : k24q2 ≠ k6q1 := by (simp only [AHeap.set_none] at hk24q2; simp only [hk24q2, ne_eq, not_false_eq_true])
                have ne_24q2_r : k24q2 ≠ kr := AHeap.ne_some hn_24q2 eb_r
                refine aOps_appendRow (es := 22) (k := kr) (c := c) (xs := l.map itC) (ys := [itC (stepE (items l) e, namO)]) (by rfl) (by rfl) Tryd.underlying25 Tryd.underlying25 (fun k e => by cases e) sz44 by44 ze44 (by rfl) (by decide) (by rw [List.length_map]; rfl) hcap (by repeat (first | exact AHeap.set_same _ _ _ | assumption | refine (AHeap.set_ne _ _ (by first | assumption | exact Ne.symm (by assumption))).trans ?_)) hwd hal (by rfl) (IsL.own (b := ⟨itC (stepE (items l) e, namO), 0⟩) (by repeat (first | exact AHeap.set_same _ _ _ | assumption | refine (AHeap.set_ne _ _ (by first | assumption | exact Ne.symm (by assumption))).trans ?_)) (by intro x hx; rw [List.mem_singleton.1 hx]; rfl) (by simp) (by rw [hst]; rfl) (.exact 1) (Nat.le_refl _)) (by rw [hst]; rfl) (by simp) (by simp; omega) (by simp; omega) fun k24 h24 g1 g2 g3 => ?_
                simp (decide := true) only [aOps_nil, ev, putD, Slots.put, Slots.get, Slots.keep, if_true, if_false, true_and, ↓ap_assign, pop_assign]
                change Awp _ _ _ _ _ _ _
                -- region 5  law.go:24
                refine awp_r [0, 2, 3, 4, 5] (by rfl) ?_
                simp (decide := true) only [aOps_nil, ev, absV, absS, putD, Slots.put, Slots.get, Slots.keep, if_true, if_false, true_and, ↓ap_move, pop_move, ↓ap_binOp, pop_binOp, isNilC_int, cond_false, pBinX_int, pI_add, ↓ap_assign, pop_assign]
                try simp (disch := omega) only [wrap_i64]
                try simp only [thenA_normal]
                refine ⟨⟨i + 1, h24, k24, .grow 22, l ++ [(stepE (items l) e, namO)]⟩, ?_, Sub.refl _, of_step ⟨⟨hi1, hi2⟩, hs_H, eb_a, eb_b, eb_r, ⟨hnr, ne_r_a, ne_r_b⟩, hcap, heq, hlen, hoth⟩ hi' (by omega) he hn_6q1 hn_24q2 g1 g2 g3, by simp only; omega⟩
                simp only [List.length_map, List.length_append]
                rfl
            · try simp only [decide_eq_false_iff_not] at hb6
              have hst : stepE (items l) e = ⟨nmE e.name, lv, p, 0, 1, -1, -1⟩ := by
                unfold stepE
                split
                · omega
                · omega
                · omega
                · omega
                · exact hpl
              refine awp_skip ?_
              change Awp _ _ _ _ _ _ _
              -- region 24  law.go:46
              refine awp_r [0, 2, 3, 4, 5] (by rfl) ?_
              simp (decide := true) only [ev, putD, Slots.put, Slots.get, if_true, if_false, true_and, ↓ap_move, pop_move, ↓ap_loadL, apL_mk, pLoad_agg ag44 sz44, rd_any, cellsAt, List.getD_cons_zero, List.getD_cons_succ, Nat.zero_add, Nat.reduceAdd, lv_bool, lv_int, lv_str, lv_nilSlice, allLive, Bool.and_true]
              refine aOps_buildSlice (cs := itC (stepE (items l) e, namO)) (by rw [hst]; kernel_rfl) fun k24q2 hk24q2 => ?_
              have hn_24q2 : H k24q2 = none := by (simp only [AHeap.set_none] at hk24q2; simp only [hk24q2])
              have ne_24q2_6q1 : k24q2 ≠ k6q1 := by (simp only [AHeap.set_none] at hk24q2; simp only [hk24q2, ne_eq, not_false_eq_true])
              have ne_24q2_r : k24q2 ≠ kr := AHeap.ne_some hn_24q2 eb_r
              refine aOps_appendRow (es := 22) (k := kr) (c := c) (xs := l.map itC) (ys := [itC (stepE (items l) e, namO)]) (by rfl) (by rfl) Tryd.underlying25 Tryd.underlying25 (fun k e => by cases e) sz44 by44 ze44 (by rfl) (by decide) (by rw [List.length_map]; rfl) hcap (by repeat (first | exact AHeap.set_same _ _ _ | assumption | refine (AHeap.set_ne _ _ (by first | assumption | exact Ne.symm (by assumption))).trans ?_)) hwd hal (by rfl) (IsL.own (b := ⟨itC (stepE (items l) e, namO), 0⟩) (by repeat (first | exact AHeap.set_same _ _ _ | assumption | refine (AHeap.set_ne _ _ (by first | assumption | exact Ne.symm (by assumption))).trans ?_)) (by intro x hx; rw [List.mem_singleton.1 hx]; rfl) (by simp) (by rw [hst]; rfl) (.exact 1) (Nat.le_refl _)) (by rw [hst]; rfl) (by simp) (by simp; omega) (by simp; omega) fun k24 h24 g1 g2 g3 => ?_
              simp (decide := true) only [aOps_nil, ev, putD, Slots.put, Slots.get, Slots.keep, if_true, if_false, true_and, ↓ap_assign, pop_assign]
              change Awp _ _ _ _ _ _ _
              -- region 5  law.go:24
              refine awp_r [0, 2, 3, 4, 5] (by rfl) ?_
              simp (decide := true) only [aOps_nil, ev, absV, absS, putD, Slots.put, Slots.get, Slots.keep, if_true, if_false, true_and, ↓ap_move, pop_move, ↓ap_binOp, pop_binOp, isNilC_int, cond_false, pBinX_int, pI_add, ↓ap_assign, pop_assign]
              try simp (disch := omega) only [wrap_i64]
              try simp only [thenA_normal]
              refine ⟨⟨i + 1, h24, k24, .grow 22, l ++ [(stepE (items l) e, namO)]⟩, ?_, Sub.refl _, of_step ⟨⟨hi1, hi2⟩, hs_H, eb_a, eb_b, eb_r, ⟨hnr, ne_r_a, ne_r_b⟩, hcap, heq, hlen, hoth⟩ hi' (by omega) he hn_6q1 hn_24q2 g1 g2 g3, by simp only; omega⟩
              simp only [List.length_map, List.length_append]
              rfl
  · try simp only [decide_eq_false_iff_not, Bool.and_eq_false_iff] at hb1
    refine awp_exit ?_
    change Awp _ _ _ _ _ _ _
    refine Awp.keep [0, 2, 4] ?_
    refine hrest ⟨i, H, kr, c, l⟩ ⟨⟨hi1, hi2⟩, hs_H, eb_a, eb_b, eb_r, ⟨hnr, ne_r_a, ne_r_b⟩, hcap, heq, hlen, hoth⟩ ?_
    simp only
    rw [heq]
    unfold rawE
    congr 1
    rcases Nat.lt_or_ge i 20 with h20 | h20
    · rw [List.take_of_length_le (by omega), List.take_of_length_le (by omega)]
    · rw [show i = 20 by omega]
end Go.Proofs.YtgnebodlkfblcaaDoor

/-
  Contracts: the records that the laws build, their categories.
  Conditions: none.
-/
namespace Go.AM
open Go.Prs
open Go.Proofs
theorem getD_set_self {α : Type} [Inhabited α] {l : List α} {i : Nat} (a : α) (hi : i < l.length) : (l.set i a).getD i default = a := by simp [List.getD, hi]
theorem getD_set_other {α : Type} [Inhabited α] {l : List α} {i j : Nat} (a : α) (h : j ≠ i) : (l.set i a).getD j default = l.getD j default := by simp [List.getD, Ne.symm h]
end Go.AM
namespace Go.Proofs.YtgnebodlkfblcaaDoor
open Go.AM
open Go.Proofs
open Go.Col
open Go.Prs
set_option maxRecDepth 100000

def shE (c : Int) (pic : Str) (n : Int) : List AVal := [.int .u8 c, .int .u8 0, .str pic, .int .i64 n, .int .i64 0, .bool false, .bool false, .bool false, .bool false, .bool false, .int .i64 1]
def shO (c : Int) (pic : Str) (n : Int) (q : ItemP × ItemO) : ItemP × ItemO := ({ q.1 with cat := c }, { q.2 with us := 0, pic := pic, dig := n, scl := 0, sgn := false, lea := false, sep := false, jus := false, bla := false, siz := 1 })
theorem shO_set (c : Int) (pic : Str) (n : Int) (q : ItemP × ItemO) : setAt (itC q) 3 (shE c pic n) = itC (shO c pic n q) := rfl
theorem itC_set {l : List (ItemP × ItemO)} {i : Nat} (hi : i < l.length) (c : Int) (pic : Str) (n : Int) : setAt (l.map itC).flatten (i * 22 + 3) (shE c pic n) = ((l.set i (shO c pic n (l.getD i default))).map itC).flatten := by
  rw [flat_setAt (es := 22) _ it_wide i 3 (by rw [List.length_map]; exact hi) (by simp [shE]), List.map_set]
  congr 2
  rw [List.getD, List.getElem?_map, List.getElem?_eq_getElem hi, ← shO_set, List.getD, List.getElem?_eq_getElem hi]
  rfl
theorem aOps_storeShape {P : Program} {w₀ : World} {ops rest : List Oper} {s : Slots} {H : AHeap} {K : Slots → AHeap → Prop} {dst : Option Tmp} {ty : TypeId} {pos : String} {af : Array Edge} {t : TypeId} {x y : Operand} {k i : Nat} {l : List (ItemP × ItemO)} {c : Int} {pic : Str} {n : Int}
    (hx : ev s x = .ptr (.own k) (i * 22 + 3)) (hv : ev s y = .agg (shE c pic n)) (hb : H k = some ⟨(l.map itC).flatten, 0⟩) (hi : i < l.length) (hn : szOf P t = some 11)
    (hk : aOps P w₀ ops rest (putD s dst (.tuple [])) (H.set k ⟨((l.set i (shO c pic n (l.getD i default))).map itC).flatten, 0⟩) K) :
    aOps P w₀ ops (⟨dst, .store t x y, ty, pos, af, none⟩ :: rest) s H K := by
  refine aOps_store hx hv hb hn rfl rfl ?_ (Nat.zero_le _) rfl ?_
  · simp only
    rw [flatten_len (es := 22) it_wide, List.length_map]
    omega
  · simp only [AVal.cells]
    rw [itC_set hi]
    exact hk

/-! ### Groups -/
def grpN (l : List ItemP) (i k : Nat) : Bool := decide ((i : Int) = 0) || (List.range k).any fun j => decide (i < j) && (decide ((l.getD j default).parent = i) && decide ((l.getD j default).level < 50))
theorem grpN_all (l : List ItemP) (i : Nat) : grpN l i l.length = groupAt l i := by
  unfold grpN groupAt
  congr 1
  rw [Bool.eq_iff_iff]
  simp
theorem grpN_start (l : List ItemP) (i : Nat) : grpN l i (i + 1) = decide ((i : Int) = 0) := by
  unfold grpN
  rw [Bool.eq_iff_iff]
  simp only [Bool.or_eq_true, decide_eq_true_eq, List.any_eq_true, List.mem_range, Bool.and_eq_true]
  constructor
  · rintro (h | ⟨j, hj, h, _⟩)
    · exact h
    · omega
  · exact .inl
theorem grpN_step (l : List ItemP) {i k : Nat} (h : i < k) : grpN l i (k + 1) = (grpN l i k || (decide ((l.getD k default).parent = i) && decide ((l.getD k default).level < 50))) := by
  unfold grpN
  rw [List.range_succ, List.any_append, Bool.or_assoc]
  simp [h]
theorem grow_cat : ∀ (x : List EntryP) (l : List ItemP), (∀ y ∈ l, y.cat = 0) → ∀ y ∈ growE x l, y.cat = 0
  | [], l, h => h
  | e :: x, l, h => grow_cat x _ fun y hy => by
    rcases List.mem_append.1 hy with h' | h'
    · exact h y h'
    · rw [List.mem_singleton.1 h']
      unfold stepE
      split <;> rfl
theorem raw_cat (x : List EntryP) : ∀ y ∈ rawE x, y.cat = 0 := grow_cat _ _ fun y hy => by rw [List.mem_singleton.1 hy]; rfl

structure OfH where
  i : Nat
  H : AHeap
  l : List (ItemP × ItemO)
structure OfP (h : AHeap) (ka kr : Nat) (es : List EntryP) (n : Nat) (s : OfH) : Prop where
  i : s.i ≤ n
  sub : Sub h s.H
  res : s.H ka = some ⟨[.nilSlice, .int .i64 0], 0⟩
  row : s.H kr = some ⟨(s.l.map itC).flatten, 0⟩
  len : s.l.length = n
  at_ : ∀ j, j < n → (s.l.getD j default).1 = { (rawE es).getD j default with cat := if j < s.i then catE (rawE es) es j else 0 } ∧ (s.l.getD j default).2.val = .nilSlice
theorem ofp_done {h : AHeap} {ka kr n : Nat} {es : List EntryP} {s : OfH} (hok : OfP h ka kr es n s) (hn : (rawE es).length = n) (hi : n ≤ s.i) : items s.l = ofE es ∧ ∀ q ∈ s.l, q.2.val = .nilSlice := by
  obtain ⟨-, -, -, -, hl, ha⟩ := hok
  constructor
  · refine List.ext_getElem ?_ fun j h1 h2 => ?_
    · rw [items_len, hl, of_len, ← raw_len, hn]
    · have hj : j < n := by rw [items_len, hl] at h1; exact h1
      have h0 := (ha j hj).1
      rw [if_pos (by omega)] at h0
      have e1 : (items s.l)[j] = (s.l.getD j default).1 := by
        rw [← items_getD, List.getD, List.getElem?_eq_getElem h1]; rfl
      have e2 : (ofE es)[j] = (ofE es).getD j default := by
        rw [List.getD, List.getElem?_eq_getElem h2]; rfl
      rw [e1, e2, h0, of_get (by omega)]
  · intro q hq
    obtain ⟨j, hj, rfl⟩ := List.getElem_of_mem hq
    have := (ha j (by omega)).2
    rwa [List.getD, List.getElem?_eq_getElem hj] at this
theorem ofp_step {h H H' : AHeap} {ka kr n i : Nat} {es : List EntryP} {l l' : List (ItemP × ItemO)} {c : Int} (hok : OfP h ka kr es n ⟨i, H, l⟩) (hn : (rawE es).length = n) (hi : i < n) (hc : c = catE (rawE es) es i) (hs : Sub h H') (he : H' ka = H ka) (hr : H' kr = some ⟨(l'.map itC).flatten, 0⟩) (hl : l'.length = n)
    (h0 : (l'.getD i default).1 = { (l.getD i default).1 with cat := c } ∧ (l'.getD i default).2.val = .nilSlice) (h1 : ∀ j, j ≠ i → l'.getD j default = l.getD j default) : OfP h ka kr es n ⟨i + 1, H', l'⟩ := by
  obtain ⟨-, -, ea, -, -, ha⟩ := hok
  simp only at ea ha
  refine ⟨hi, hs, he.trans ea, hr, hl, fun j hj => ?_⟩
  simp only
  by_cases e : j = i
  · subst e
    rw [if_pos (Nat.lt_succ_self _), h0.1, (ha j hj).1, hc]
    exact ⟨rfl, h0.2⟩
  · rw [h1 j e, (ha j hj).1]
    refine ⟨?_, (ha j hj).2⟩
    congr 1
    by_cases h : j < i
    · rw [if_pos h, if_pos (by omega)]
    · rw [if_neg h, if_neg (by omega)]
structure OfRes (h : AHeap) (es : List EntryP) (r : AVal) (h' : AHeap) : Prop where
  ex : ∃ k lA c, r = .agg [.slice (.own k) 0 lA.length c, .int .i64 0] ∧ h' k = some ⟨(lA.map itC).flatten, 0⟩ ∧ h k = none ∧ items lA = ofE es ∧ (∀ q ∈ lA, q.2.val = .nilSlice) ∧ (c = .exact lA.length ∨ c = .grow 22)
  sub : Sub h h'

set_option maxHeartbeats 4000000 in
theorem l_Of2 (w₀ : World) (h : AHeap) (ka kb : Nat) (cR : List AVal) (v : AVal) (es : List EntryP) (hv : IsL w₀ h 4 v (es.map entC)) (hes : ∀ e ∈ es, EntOk e) (hl : es.length ≤ 9223372036854775807) (s : OfG) (hka : h ka = none) (hok : OfOk h ka kb cR es s) (hraw : items s.l = rawE es) :
    Awp Tryd.prog w₀ 163 (dropSeq 4 (bodyOf Tryd.f8)) (retA Tryd.prog w₀ [.cell 2 27] (OfRes h es)) [(0, v), (2, .ptr (.own ka) 0), (4, .slice (.own s.k) 0 s.l.length s.c)] (s.H) := by
  have hlv := hv.live
  have nv := ent_len hv
  obtain ⟨i0, H0, kr, c, l0⟩ := s
  obtain ⟨⟨hi1, hi2⟩, hs0, ea0, -, er0, ⟨hnr, ne_r_a, -⟩, hcap, -, hlen, hoth⟩ := hok
  simp only at hi1 hi2 hs0 ea0 er0 hnr ne_r_a hcap hlen hoth hraw ⊢
  obtain ⟨n, hn⟩ : ∃ n, n = l0.length := ⟨_, rfl⟩
  have hrl : (rawE es).length = n := by rw [← hraw, items_len, hn]
  have nl : ∀ H : AHeap, pLenH Tryd.prog H 25 (.slice (.own kr) 0 n c) = ⟨True, .int .i64 n⟩ := by
    have hLr : IsL w₀ H0 22 (.slice (.own kr) 0 l0.length c) (l0.map itC) := by
      have := IsL.own (w₀ := w₀) (xs := l0.map itC) er0 it_wide rfl (row_live hoth).1 c (capOk_of hcap)
      rwa [List.length_map] at this
    rw [hn]
    exact it_len hLr
  have hst : OfP h ka kr es n ⟨0, H0, l0⟩ := by
    refine ⟨Nat.zero_le _, hs0, ea0, er0, hn.symm, fun j hj => ?_⟩
    have hj' : j < l0.length := by omega
    have e1 : (l0.getD j default).1 = (rawE es).getD j default := by rw [← hraw, items_getD]
    constructor
    · simp only
      rw [e1, if_neg (by omega), ← raw_cat es ((rawE es).getD j default) (by rw [List.getD, List.getElem?_eq_getElem (by omega)]; exact List.getElem_mem _)]
    · simp only
      rw [List.getD, List.getElem?_eq_getElem hj']
      exact hoth _ (List.getElem_mem hj')
  rw [← hn]
  rw [List.length_map, ← hn] at hcap
  change Awp _ _ _ (Code.seq _ _) _ _ _
  refine awp_seq ?_
  -- region 25  law.go:49
  refine awp_rseq [0, 2, 4, 7] (by rfl) fun K hK => ?_
  simp (decide := true) only [aOps_nil, ev, absV, absS, putD, Slots.put, Slots.keep, if_true, if_false, true_and, ↓ap_assign, pop_assign]
  apply hK; clear hK K
  refine awp_block ?_
  refine awp_loopG [0, 2, 4, 7] (fun g : OfH => [(0, v), (2, .ptr (.own ka) 0), (4, .slice (.own kr) 0 n c), (7, .int .i64 g.i)]) (fun g : OfH => g.H) (fun g : OfH => OfP h ka kr es n g) (fun g : OfH => n - g.i) ⟨0, H0, l0⟩ (by rfl) (Sub.refl _) hst ?_
  rintro ⟨i, H, l⟩ hok
  obtain ⟨hi, hs_H, eb_a, eb_r, hln, hat⟩ := id hok
  simp only at hi hs_H eb_a eb_r hln hat ⊢
  have hotl : ∀ q ∈ l, q.2.val = .nilSlice := by
   intro q hq
   obtain ⟨j, hj, rfl⟩ := List.getElem_of_mem hq
   have := (hat j (by omega)).2
   rwa [List.getD, List.getElem?_eq_getElem hj] at this
  have hLr : IsL w₀ H 22 (.slice (.own kr) 0 l.length c) (l.map itC) := by
   have := IsL.own (w₀ := w₀) (xs := l.map itC) eb_r it_wide rfl (row_live hotl).1 c (capOk_of (by rw [List.length_map, hln]; exact hcap))
   rwa [List.length_map] at this
  refine awp_seq ?_
  -- region 26  law.go:49
  refine awp_rseq [0, 2, 4, 7, 106] (by rfl) fun K hK => ?_
  simp (decide := true) only [aOps_nil, ev, putD, Slots.put, Slots.get, Slots.keep, if_true, if_false, true_and, ↓ap_move, pop_move, ↓ap_len, pop_len, pLen_slice Tryd.underlying25, ↓ap_binOp, pop_binOp, isNilC_tmp, cond_false, pBinX_int, pI_lss]
  apply hK; clear hK K
  refine awp_cond (b := _) rfl (fun hb1 => ?_) (fun hb1 => ?_)
  · try simp only [decide_eq_true_eq] at hb1
    have hi' : i < n := by omega
    refine awp_skip ?_
    change Awp _ _ _ _ _ _ _
    refine awp_seq ?_
    refine awp_block ?_
    -- region 28  law.go:50
    refine awp_rseq [0, 2, 4, 7, 8] (by rfl) fun K hK => ?_
    simp (decide := true) only [aOps_nil, ev, absV, absS, putD, Slots.put, Slots.get, Slots.keep, if_true, if_false, true_and, ↓ap_move, pop_move, ↓ap_binOp, pop_binOp, isNilC_int, cond_false, pBinX_int, pI_eql, ↓ap_assign, pop_assign]
    apply hK; clear hK K
    refine awp_seq ?_
    -- region 29  law.go:51
    refine awp_rseq [0, 2, 4, 7, 8, 9] (by rfl) fun K hK => ?_
    simp (decide := true) only [aOps_nil, ev, absV, absS, putD, Slots.put, Slots.get, Slots.keep, if_true, if_false, true_and, ↓ap_move, pop_move, ↓ap_binOp, pop_binOp, isNilC_int, cond_false, pBinX_int, pI_add, ↓ap_assign, pop_assign]
    try simp (disch := omega) only [wrap_i64]
    apply hK; clear hK K
    refine awp_block ?_
    refine awp_loopG [0, 2, 4, 7, 8, 9] (fun p : Nat × Bool => [(0, v), (2, .ptr (.own ka) 0), (4, .slice (.own kr) 0 n c), (7, .int .i64 i), (8, .bool p.2), (9, .int .i64 p.1)]) (fun p : Nat × Bool => H) (fun p : Nat × Bool => i < p.1 ∧ p.1 ≤ n ∧ p.2 = grpN (rawE es) i p.1) (fun p : Nat × Bool => n - p.1) (i + 1, decide ((i : Int) = 0)) (by rfl) (Sub.refl _) ⟨Nat.lt_succ_self _, hi', (grpN_start _ _).symm⟩ ?_
    rintro ⟨k, b⟩ ⟨hk1, hk2, hk3⟩
    simp only at hk1 hk2 hk3 ⊢
    refine awp_seq ?_
    -- region 30  law.go:51
    refine awp_rseq [0, 2, 4, 7, 8, 9, 116] (by rfl) fun K hK => ?_
    simp (decide := true) only [aOps_nil, ev, putD, Slots.put, Slots.get, Slots.keep, if_true, if_false, true_and, ↓ap_move, pop_move, ↓ap_len, pop_len, pLen_slice Tryd.underlying25, ↓ap_binOp, pop_binOp, isNilC_tmp, cond_false, pBinX_int, pI_lss]
    apply hK; clear hK K
    refine awp_cond (b := _) rfl (fun hb2 => ?_) (fun hb2 => ?_)
    · try simp only [decide_eq_true_eq] at hb2
      have hk' : k < n := by omega
      obtain ⟨x, hx⟩ : ∃ a, (rawE es).getD k default = a := ⟨_, rfl⟩
      have hrl := it_rd hLr (i := k) (by omega) (j := 1) (by decide)
      have hrp := it_rd hLr (i := k) (by omega) (j := 2) (by decide)
      have hxk := (hat k hk').1
      rw [hx] at hxk
      have hxl : (l.getD k default).1.level = x.level := by rw [hxk]
      have hxp : (l.getD k default).1.parent = x.parent := by rw [hxk]
      have hrl' : (l.map itC).flatten.getD (k * 22 + 1) .dead = .int .i64 x.level := by
       rw [← rd_own w₀ eb_r, ← Nat.zero_add (k * 22), hrl, ← hxl]; rfl
      have hrp' : (l.map itC).flatten.getD (k * 22 + 2) .dead = .int .i64 x.parent := by
       rw [← rd_own w₀ eb_r, ← Nat.zero_add (k * 22), hrp, ← hxp]; rfl
      refine awp_skip ?_
      change Awp _ _ _ _ _ _ _
      refine awp_seq ?_
      refine awp_block ?_
      -- region 32  law.go:52
      refine awp_r [0, 2, 4, 7, 8, 9] (by rfl) ?_
      simp (decide := true) only [aOps_nil, ev, absV, absS, putD, Slots.put, Slots.get, Slots.keep, if_true, if_false, true_and, ↓ap_move, pop_move, ↓ag_move, agP, agQ_some, nthDst, gKnown_bool, gKnown_cond, guardB_cond, guardB_bool_true, guardB_bool_false, cv_cv, implies_true, ↓ag_indexAddrL, agQL_some, agL_mk, agL_il2, agL_il3, agL_ir2, agL_ir3, pIndexAddr_slice Tryd.underlying25 sz44, ↓ag_fieldAddr, pop_fieldAddr, fa44_2, cv_fieldAddr, cp_fieldAddr, ↓ag_loadL, agL_ld2, agL_ld3, pLoad_one ag3, ↓ag_binOp, pop_binOp, isNilC_tmp, cond_false, cv_binl, cv_binr, cp_binl, cp_binr, pBinX_int, pI_eql, fa44_1, isNilC_int, pI_lss, ↓ag_pick, pop_pick, pPick_bool, pickV_cond_r, cp_nest1, pickV_and, pickV_or, cv_pick, cp_pick, ↓ap_pick, ↓ap_assign, pop_assign, rd_own w₀ eb_r, Nat.zero_add, lv_int, Int.toNat_natCast, hrl', hrp']
      repeat (with_reducible refine And.intro ?_ ?_; · first | trivial | omega | (intro hg; simp only [Bool.and_eq_true, Bool.or_eq_true, Bool.not_eq_true', Bool.and_eq_false_iff, Bool.or_eq_false_iff, Bool.not_eq_false', decide_eq_true_eq, decide_eq_false_iff_not, eqNil] at hg; omega) )
      change Awp _ _ _ _ _ _ _
      -- region 31  law.go:51
      refine awp_r [0, 2, 4, 7, 8, 9] (by rfl) ?_
      simp (decide := true) only [aOps_nil, ev, absV, absS, putD, Slots.put, Slots.get, Slots.keep, if_true, if_false, true_and, ↓ap_move, pop_move, ↓ap_binOp, pop_binOp, isNilC_int, cond_false, pBinX_int, pI_add, ↓ap_assign, pop_assign]
      try simp (disch := omega) only [wrap_i64]
      try simp only [thenA_normal]
      refine ⟨(k + 1, b || (decide (x.parent = i) && decide (x.level < 50))), rfl, Sub.refl _, ⟨Nat.lt_succ_of_lt hk1, hk', ?_⟩, by simp only; omega⟩
      simp only
      rw [grpN_step _ hk1, hx, hk3]
    · try simp only [decide_eq_false_iff_not] at hb2
      have hkn : k = n := by omega
      subst hkn
      have hg : b = groupAt (rawE es) i := by rw [hk3, ← grpN_all, hrl]
      have hfin : ∀ c', c' = catE (rawE es) es i → ∀ H' l', (l' = l ∧ H' = H ∧ c' = 0) ∨ (∃ X, H' = H.set kr X ∧ X = ⟨(l'.map itC).flatten, 0⟩ ∧ l'.length = k ∧ (l'.getD i default).1 = { (l.getD i default).1 with cat := c' } ∧ (l'.getD i default).2.val = .nilSlice ∧ ∀ j, j ≠ i → l'.getD j default = l.getD j default) → OfP h ka kr es k ⟨i + 1, H', l'⟩ := by
       intro c' hc' H' l' hh
       rcases hh with ⟨rfl, rfl, h0⟩ | ⟨X, rfl, rfl, h1, h2, h3, h4⟩
       · refine ofp_step hok hrl hi' hc' hs_H rfl eb_r hln ⟨?_, (hat i hi').2⟩ fun _ _ => rfl
         rw [(hat i hi').1, h0]
         simp only
         rw [if_neg (Nat.lt_irrefl _)]
       · exact ofp_step hok hrl hi' hc' (Sub.set_off hs_H hnr _) (AHeap.set_ne _ _ ne_r_a.symm) (AHeap.set_same _ _ _) h1 ⟨h2, h3⟩ h4
      refine awp_exit ?_
      change Awp _ _ _ _ _ _ _
      -- region 33  law.go:54
      refine awp_rseq [0, 2, 4, 7, 138] (by rfl) fun K hK => ?_
      simp (decide := true) only [aOps_nil, ev, putD, Slots.put, Slots.get, Slots.keep, if_true, if_false, true_and, ↓ap_move, pop_move, ↓ap_unOp, pop_unOp, pU_not]
      apply hK; clear hK K
      refine awp_cond (b := _) rfl (fun hb3 => ?_) (fun hb3 => ?_)
      · try simp only [Bool.not_eq_true'] at hb3
        have h0 : 0 < i := by
         rcases Nat.eq_zero_or_pos i with e | e
         · exfalso
           rw [hk3, e] at hb3
           simp [grpN] at hb3
         · exact e
        have hgt : (0 < (i : Int)) = True := eq_true (by omega)
        obtain ⟨lce, oe, ce, rfl⟩ := ent_open hv (by omega)
        obtain ⟨e, he⟩ : ∃ e, e = es.getD (i - 1) default := ⟨_, rfl⟩
        have htn : ((i : Int) - 1).toNat = i - 1 := by omega
        have hwr : IntKind.i64.wrap ((i : Int) - 1) = (i : Int) - 1 := wrap_i64 (by omega) (by omega)
        have hm3 : Int.tmod (e.kind : Int) 3 = ((e.kind % 3 : Nat) : Int) := by rw [Int.tmod_eq_emod_of_nonneg (by omega)]; exact (Int.natCast_emod e.kind 3).symm
        have er2 : ∀ X, rd w₀ (H.set kr X) lce (oe + (i - 1) * 4 + 2) = .int .u8 e.kind := fun X => by
         have hX : Sub h (H.set kr X) := Sub.set_off hs_H hnr X
         have q := ent_rd (hv.mono hX) (i := i - 1) (by omega) (j := 2) (by decide) (w₀ := w₀)
         rwa [← he] at q
        obtain ⟨l2, hl2⟩ : ∃ l2, l2 = l.set i (shO 4 [57] 1 (l.getD i default)) := ⟨_, rfl⟩
        obtain ⟨l3, hl3⟩ : ∃ l3, l3 = l2.set i (shO 2 [88] 0 (l2.getD i default)) := ⟨_, rfl⟩
        have hi2l : i < l.length := by omega
        have hll : l2.length = k ∧ l3.length = k := by rw [hl3, hl2]; simp only [List.length_set]; exact ⟨hln, hln⟩
        -- region 34  law.go:55
        refine awp_rseq [0, 2, 4, 7] (by rfl) fun K hK => ?_
        simp (decide := true) only [ev, absV, absS, putD, Slots.put, Slots.get, if_true, if_false, true_and, ↓ap_move, pop_move, ↓ap_build, ↓pop_buildL, bld41_0_2_3_10, evP, List.map_cons, List.map_nil, ↓ap_indexAddrL, apL_mk, pIndexAddr_slice Tryd.underlying25 sz44, ↓ap_fieldAddr, pop_fieldAddr, fa44_3, Nat.zero_add]
        repeat (with_reducible refine And.intro ?_ ?_; · first | trivial | omega | (intro hg; simp only [Bool.and_eq_true, Bool.or_eq_true, Bool.not_eq_true', Bool.and_eq_false_iff, Bool.or_eq_false_iff, Bool.not_eq_false', decide_eq_true_eq, decide_eq_false_iff_not, eqNil] at hg; omega) )
        refine aOps_storeShape (c := 4) (pic := [57]) (n := 1) (i := i) (l := l) (by rfl) (by rfl) eb_r hi2l sz41 ?_
        rw [← hl2]
        simp (decide := true) only [aOps_nil, putD, Slots.keep, if_true, if_false]
        apply hK; clear hK K
        -- region 35  law.go:56
        refine awp_rseq [0, 2, 4, 7, 155] (by rfl) fun K hK => ?_
        simp (decide := true) only [aOps_nil, ev, absV, absS, putD, Slots.put, Slots.get, Slots.keep, if_true, if_false, true_and, ↓ap_move, pop_move, ↓ap_binOp, pop_binOp, isNilC_int, cond_false, pBinX_int, pI_gtr, ↓ag_move, agP, agQ_some, nthDst, gKnown_bool, guardB_bool_true, implies_true, decide_true, condV_true, forall_const, Bool.true_and, ↓ag_binOp, pI_sub, ↓ag_indexAddrL, agQL_some, agL_mk, pIndexAddr_slice Tryd.underlying23 sz58, ↓ag_fieldAddr, pop_fieldAddr, fa58_2, ↓ag_loadL, pLoad_one ag5, pI_rem, pI_eql, ↓ap_pick, pop_pick, pPick_bool, pickV_and, lv_int, hgt, hwr, htn, er2, hm3]
        repeat (with_reducible refine And.intro ?_ ?_; · first | trivial | omega | (intro hg; simp only [Bool.and_eq_true, Bool.or_eq_true, Bool.not_eq_true', Bool.and_eq_false_iff, Bool.or_eq_false_iff, Bool.not_eq_false', decide_eq_true_eq, decide_eq_false_iff_not, eqNil] at hg; omega) )
        apply hK; clear hK K
        refine awp_cond (b := _) rfl (fun hb4 => ?_) (fun hb4 => ?_)
        · try simp only [decide_eq_true_eq] at hb4
          -- region 36  law.go:57
          refine awp_r [0, 2, 4, 7] (by rfl) ?_
          simp (decide := true) only [ev, absV, absS, putD, Slots.put, Slots.get, if_true, if_false, true_and, ↓ap_move, pop_move, ↓ap_build, ↓pop_buildL, bld41_0_2_10, evP, List.map_cons, List.map_nil, ↓ap_indexAddrL, apL_mk, pIndexAddr_slice Tryd.underlying25 sz44, ↓ap_fieldAddr, pop_fieldAddr, fa44_3, Nat.zero_add]
          repeat (with_reducible refine And.intro ?_ ?_; · first | trivial | omega | (intro hg; simp only [Bool.and_eq_true, Bool.or_eq_true, Bool.not_eq_true', Bool.and_eq_false_iff, Bool.or_eq_false_iff, Bool.not_eq_false', decide_eq_true_eq, decide_eq_false_iff_not, eqNil] at hg; omega) )
          refine aOps_storeShape (c := 2) (pic := [88]) (n := 0) (i := i) (l := l2) (by rfl) (by rfl) (AHeap.set_same _ _ _) (by omega) sz41 ?_
          rw [← hl3, AHeap.set_set]
          have hdone := hfin 2 (by unfold catE; rw [← hg, ← he]; simp [hb3, h0, show e.kind % 3 = 0 by omega]) _ l3 (.inr ⟨_, rfl, rfl, hll.2, by rw [hl3, getD_set_self _ (by omega), hl2, getD_set_self _ hi2l]; rfl, by rw [hl3, getD_set_self _ (by omega), hl2, getD_set_self _ hi2l]; exact (hat i hi').2, fun j hj => by rw [hl3, getD_set_other _ hj, hl2, getD_set_other _ hj]⟩)
          simp (decide := true) only [aOps_nil, putD, Slots.keep, if_true, if_false]
          change Awp _ _ _ _ _ _ _
          -- region 27  law.go:49
          refine awp_r [0, 2, 4, 7] (by rfl) ?_
          simp (decide := true) only [aOps_nil, ev, absV, absS, putD, Slots.put, Slots.get, Slots.keep, if_true, if_false, true_and, ↓ap_move, pop_move, ↓ap_binOp, pop_binOp, isNilC_int, cond_false, pBinX_int, pI_add, ↓ap_assign, pop_assign]
          try simp (disch := omega) only [wrap_i64]
          try simp only [thenA_normal]
          exact ⟨⟨i + 1, _, _⟩, rfl, Sub.refl _, hdone, by simp only; omega⟩
        · try simp only [decide_eq_false_iff_not] at hb4
          have hdone := hfin 4 (by unfold catE; rw [← hg, ← he]; simp [hb3, h0, show ¬ e.kind % 3 = 0 by omega]) _ l2 (.inr ⟨_, rfl, rfl, hll.1, by rw [hl2, getD_set_self _ hi2l]; rfl, by rw [hl2, getD_set_self _ hi2l]; exact (hat i hi').2, fun j hj => by rw [hl2, getD_set_other _ hj]⟩)
          refine awp_skip ?_
          change Awp _ _ _ _ _ _ _
          -- region 27  law.go:49
          refine awp_r [0, 2, 4, 7] (by rfl) ?_
          simp (decide := true) only [aOps_nil, ev, absV, absS, putD, Slots.put, Slots.get, Slots.keep, if_true, if_false, true_and, ↓ap_move, pop_move, ↓ap_binOp, pop_binOp, isNilC_int, cond_false, pBinX_int, pI_add, ↓ap_assign, pop_assign]
          try simp (disch := omega) only [wrap_i64]
          try simp only [thenA_normal]
          exact ⟨⟨i + 1, _, _⟩, rfl, Sub.refl _, hdone, by simp only; omega⟩
      · try simp only [Bool.not_eq_false'] at hb3
        have hdone := hfin 0 (by unfold catE; rw [← hg]; simp [hb3]) H l (.inl ⟨rfl, rfl, rfl⟩)
        refine awp_skip ?_
        change Awp _ _ _ _ _ _ _
        -- region 27  law.go:49
        refine awp_r [0, 2, 4, 7] (by rfl) ?_
        simp (decide := true) only [aOps_nil, ev, absV, absS, putD, Slots.put, Slots.get, Slots.keep, if_true, if_false, true_and, ↓ap_move, pop_move, ↓ap_binOp, pop_binOp, isNilC_int, cond_false, pBinX_int, pI_add, ↓ap_assign, pop_assign]
        try simp (disch := omega) only [wrap_i64]
        try simp only [thenA_normal]
        exact ⟨⟨i + 1, _, _⟩, rfl, Sub.refl _, hdone, by simp only; omega⟩
  · try simp only [decide_eq_false_iff_not] at hb1
    obtain ⟨hitems, hoth'⟩ := ofp_done hok hrl (by simp only; omega)
    refine awp_exit ?_
    change Awp _ _ _ _ _ _ _
    -- region 37  law.go:61
    refine awp_rseq [2] (by rfl) fun K hK => ?_
    simp (decide := true) only [ev, absV, absS, putD, Slots.put, Slots.get, if_true, if_false, true_and, ↓ap_move, pop_move, ↓ap_build, ↓pop_buildL, bld27_0, evP, List.map_cons, List.map_nil, Sc_slice]
    refine aOps_store (by rfl) (by rfl) (by repeat (first | exact AHeap.set_same _ _ _ | assumption | refine (AHeap.set_ne _ _ (by first | assumption | exact Ne.symm (by assumption))).trans ?_)) sz27 (by rfl) (by rfl) (by first | exact Nat.le_refl _ | decide | (simp; done) | (simp; omega)) (Nat.zero_le _) (by rfl) ?_
    simp only [AVal.cells]
    simp (decide := true) only [aOps_nil, ev, putD, Slots.get, Slots.keep, if_true, if_false, setAt, List.set_cons_zero, List.set_cons_succ, Nat.zero_add]
    apply hK; clear hK K
    refine awp_ret ?_
    refine retA_retE (?_) ?_
    · simp (decide := true) only [resPre, resV_cell, Slots.get, if_true, and_true, resV_cell, pLoad_agg ag27 sz27, rd_set, cellsAt, List.getD_cons_zero, List.getD_cons_succ, Nat.zero_add, lv_int, lv_slice, allLive, Bool.and_true, cellsAt, List.getD_cons_zero, List.getD_cons_succ, Nat.zero_add, lv_int, lv_slice, allLive, Bool.and_true]
    
    simp (decide := true) only [Slots.get, if_true, resOfG_one, resV_cell, pLoad_agg ag27 sz27, rd_set, cellsAt, List.getD_cons_zero, List.getD_cons_succ, Nat.zero_add, lv_int, lv_slice, allLive, Bool.and_true, cellsAt, List.getD_cons_zero, List.getD_cons_succ, Nat.zero_add, lv_int, lv_slice, allLive, Bool.and_true]
    refine ⟨_, Sub.refl _, ⟨kr, l, c, by rw [hln], ?_, hnr, hitems, hoth', by rw [hln]; exact hcap⟩, Sub.set_off hs_H hka _⟩
    rw [AHeap.set_ne _ _ ne_r_a]
    exact eb_r

set_option maxHeartbeats 4000000 in
theorem c_Of (w₀ : World) (h : AHeap) (v : AVal) (es : List EntryP) (hv : IsL w₀ h 4 v (es.map entC)) (hes : ∀ e ∈ es, EntOk e) (hl : es.length ≤ 9223372036854775807) : ACall Tryd.prog w₀ 8 [v] h (OfRes h es) := by
  have hlv := hv.live
  refine acall_intro (n := 163) (rs := [.cell 2 27]) Tryd.func8 rfl rfl rfl rfl (Nat.le_of_ble_eq_true rfl) ?_
  simp only [initSlots]
  -- region 0  law.go:21
  refine awp_rseq [0, 2] (by rfl) fun K hK => ?_
  refine aOps_alloc ze27 (cs := [.nilSlice, .int .i64 0]) (by rfl) fun k0q0 hk0q0 => ?_
  try have hf_0q0 : h k0q0 = none := by first | assumption | (simp only [AHeap.set_none] at hk0q0; simp only [hk0q0])
  simp (decide := true) only [aOps_nil, putD, Slots.put, Slots.keep, if_true, if_false]
  apply hK; clear hK K
  -- region 1  law.go:22
  refine awp_rseq [0, 2, 3] (by rfl) fun K hK => ?_
  simp (decide := true) only [ev, absV, absS, putD, Slots.put, Slots.get, if_false, true_and, ↓ap_build, ↓pop_buildL, bld44_0_1_2_5_7_8_9_10, evP, List.map_cons, List.map_nil]
  refine aOps_alloc ze44 (cs := [.str [], .int .i64 0, .int .i64 0, .int .u8 0, .int .u8 0, .str [], .int .i64 0, .int .i64 0, .bool false, .bool false, .bool false, .bool false, .bool false, .int .i64 0, .int .i64 0, .int .i64 0, .int .i64 0, .int .i64 0, .int .i64 0, .int .i64 0, .int .i64 0, .nilSlice]) (by rfl) fun k1q1 hk1q1 => ?_
  have ne_1q1_0q0 : k1q1 ≠ k0q0 := by simp only [AHeap.set_none] at hk1q1; simp only [hk1q1, ne_eq, not_false_eq_true]
  try have hf_1q1 : h k1q1 = none := by first | assumption | (simp only [AHeap.set_none] at hk1q1; simp only [hk1q1])
  refine aOps_store (by rfl) (by rfl) (by repeat (first | exact AHeap.set_same _ _ _ | assumption | refine (AHeap.set_ne _ _ (by first | assumption | exact Ne.symm (by assumption))).trans ?_)) sz44 (by rfl) (by rfl) (by first | exact Nat.le_refl _ | decide | (simp; done) | (simp; omega)) (Nat.zero_le _) (by rfl) ?_
  simp only [AHeap.set_set, AVal.cells]
  simp (decide := true) only [aOps_nil, ev, putD, Slots.put, Slots.get, Slots.keep, if_true, if_false, setAt, List.set_cons_zero, List.set_cons_succ, Nat.zero_add, Nat.reduceAdd]
  apply hK; clear hK K
  -- region 2  law.go:23
  refine awp_rseq [0, 2, 3, 4] (by rfl) fun K hK => ?_
  simp (decide := true) only [ev, putD, Slots.put, Slots.get, if_true, if_false, true_and, ↓ap_loadL, apL_mk, pLoad_agg ag44 sz44, rd_any, cellsAt, List.getD_cons_zero, List.getD_cons_succ, Nat.zero_add, Nat.reduceAdd, lv_bool, lv_int, lv_str, lv_nilSlice, allLive, Bool.and_true]
  refine aOps_buildSlice (cs := itemC rootP namO) (by kernel_rfl) fun k2q1 hk2q1 => ?_
  have ne_2q1_0q0 : k2q1 ≠ k0q0 := by simp only [AHeap.set_none] at hk2q1; simp only [hk2q1, ne_eq, not_false_eq_true]
  have ne_2q1_1q1 : k2q1 ≠ k1q1 := by simp only [AHeap.set_none] at hk2q1; simp only [hk2q1, ne_eq, not_false_eq_true]
  try have hf_2q1 : h k2q1 = none := by first | assumption | (simp only [AHeap.set_none] at hk2q1; simp only [hk2q1])
  simp (decide := true) only [aOps_nil, ev, putD, Slots.put, Slots.get, Slots.keep, if_true, if_false, true_and, ↓ap_assign, pop_assign]
  apply hK; clear hK K
  refine Awp.keep [0, 2, 3, 4] ?_
  have hsub : Sub h (((h.set k0q0 ⟨[.nilSlice, .int .i64 0], 0⟩).set k1q1 ⟨itemC rootP namO, 0⟩).set k2q1 ⟨itemC rootP namO, 0⟩) := by
   refine Sub.set_off (Sub.set_off (Sub.set hf_0q0) hf_1q1 _) hf_2q1 _
  refine l_Of1 w₀ h k0q0 k1q1 v es _ hv hes hl _ k2q1 ⟨⟨Nat.zero_le _, Nat.zero_le _⟩, hsub, (by repeat (first | exact AHeap.set_same _ _ _ | assumption | refine (AHeap.set_ne _ _ (by first | assumption | exact Ne.symm (by assumption))).trans ?_)), (by repeat (first | exact AHeap.set_same _ _ _ | assumption | refine (AHeap.set_ne _ _ (by first | assumption | exact Ne.symm (by assumption))).trans ?_)), (by repeat (first | exact AHeap.set_same _ _ _ | assumption | refine (AHeap.set_ne _ _ (by first | assumption | exact Ne.symm (by assumption))).trans ?_)), ⟨hf_2q1, by assumption, by assumption⟩, .inl rfl, rfl, rfl, ?_⟩ ?_
  · intro q hq
    rw [List.mem_singleton.1 hq]; rfl
  · intro s hs hr
    exact l_Of2 w₀ h k0q0 k1q1 _ v es hv hes hl s hf_0q0 hs hr
end Go.Proofs.YtgnebodlkfblcaaDoor

/-
  The laws' records as groups: names and keys are short; rows of pairs.
  Conditions: none.
-/
namespace Go.Prs
open Go.Col (Str digs)
theorem pGo_all (P : Str → Prop) (g : Int) (only : Bool) : ∀ (l : List ItemP) (i : Nat) (acc : List (Int × List Str)), (∀ x ∈ l, P x.name) → (∀ y ∈ acc, ∀ s ∈ y.2, P s) → ∀ y ∈ pGo g only i l acc, ∀ s ∈ y.2, P s
  | [], _, _, _, h, y, hy => h y hy
  | x :: l, i, acc, hl, h, y, hy => by
    rw [pGo] at hy
    refine pGo_all P g only l (i + 1) (pStep g only acc i x) (fun z hz => hl z (List.mem_cons_of_mem _ hz)) (fun z hz => ?_) y hy
    rw [pStep_eq] at hz
    rcases List.mem_append.1 hz with hz | hz
    · exact h z hz
    · unfold newP at hz
      cases hq : lookA x.parent acc with
      | none => rw [hq] at hz; cases hz
      | some p =>
        have hp := h _ (Go.Proofs.YtgnebodlkfblcaaDoor.lookA_mem hq)
        rw [hq] at hz
        simp only at hz
        split at hz
        · rename_i p' he
          split at he
          · rw [Option.some.injEq] at he
            rw [List.mem_singleton] at hz
            subst hz
            intro s hs
            rw [← he] at hs
            rcases List.mem_append.1 hs with hs | hs
            · exact hp s hs
            · rw [List.mem_singleton.1 hs]; exact hl x List.mem_cons_self
          · cases he
        · cases hz
theorem paths_names {l : List ItemP} {g : Int} {only : Bool} {P : Str → Prop} (h : ∀ x ∈ l, P x.name) {y : Int × List Str} (hy : y ∈ pathsE l g only) : ∀ s ∈ y.2, P s :=
  pGo_all P g only l 0 [(g, [])] h (fun y hy => by rw [List.mem_singleton.1 hy]; simp) y (List.mem_of_mem_tail hy)
theorem key_small : ∀ {p : List Str}, (∀ s ∈ p, s.length ≤ 6) → (keyE p).length ≤ 8 * p.length
  | [], _ => by simp [keyE]
  | s :: r, h => by
    have h1 := h s List.mem_cons_self
    have h2 := key_small fun z hz => h z (List.mem_cons_of_mem _ hz)
    have h3 : (digs s.length).length = 1 := by
      generalize s.length = n at h1
      match n, h1 with
      | 0, _ => decide +kernel
      | 1, _ => decide +kernel
      | 2, _ => decide +kernel
      | 3, _ => decide +kernel
      | 4, _ => decide +kernel
      | 5, _ => decide +kernel
      | 6, _ => decide +kernel
    have h4 : (keyE (s :: r)).length = (digs s.length).length + (s.length + 1) + (keyE r).length := by
      simp only [keyE, partE, List.length_append, List.length_cons]
    rw [h4, h3, List.length_cons]
    have h1' : s.length ≤ 6 := h1
    omega
theorem grow_names : ∀ (x : List EntryP) (l : List ItemP), (∀ y ∈ l, y.name.length ≤ 6) → ∀ y ∈ growE x l, y.name.length ≤ 6
  | [], l, h => h
  | e :: x, l, h => grow_names x _ fun y hy => by
    rcases List.mem_append.1 hy with h' | h'
    · exact h y h'
    · rw [List.mem_singleton.1 h']
      have : (nmE e.name).length ≤ 6 := by
        unfold nmE filler
        split <;> decide
      unfold stepE
      split <;> exact this
theorem of_names (x : List EntryP) : ∀ y ∈ ofE x, y.name.length ≤ 6 := by
  intro y hy
  obtain ⟨i, hi, rfl⟩ := List.getElem_of_mem hy
  have hi' : i < (rawE x).length := by rw [of_len, ← raw_len] at hi; exact hi
  have e : (ofE x)[i] = (ofE x).getD i default := by rw [List.getD, List.getElem?_eq_getElem hi]; rfl
  rw [e, of_get hi']
  have hr : ∀ y ∈ [rootP], y.name.length ≤ 6 := fun y hy => by rw [List.mem_singleton.1 hy]; decide
  refine grow_names (x.take 20) [rootP] hr ((rawE x).getD i default) ?_
  rw [List.getD, List.getElem?_eq_getElem hi']
  exact List.getElem_mem hi'
theorem keys_small {l : List ItemP} (h : ∀ y ∈ l, y.name.length ≤ 6) (hl : l.length ≤ 100000) (g : Int) : ∀ y ∈ pathsE l g true, (keyE y.2).length ≤ 140737488355328 := fun y hy => by
  have h1 := key_small (paths_names (P := fun s => s.length ≤ 6) h hy)
  have h2 := Go.Proofs.YtgnebodlkfblcaaDoor.paths_short hy
  omega
theorem filter_next {α : Type} {q : α → Bool} (l : List α) (j : Nat) (hj : j < l.length) : ((l.take (j + 1)).filter q).length = ((l.take j).filter q).length + if q l[j] then 1 else 0 := by
  have ht : l.take (j + 1) = l.take j ++ [l[j]] := by rw [List.take_add_one, List.getElem?_eq_getElem hj]; rfl
  rw [ht, List.filter_append, List.length_append]
  congr 1
  by_cases h : q l[j] = true
  · simp [h]
  · simp [h]
theorem filter_le {α : Type} (q : α → Bool) (l : List α) (j : Nat) : ((l.take j).filter q).length ≤ j := Nat.le_trans (List.length_filter_le _ _) (List.length_take_le _ _)
theorem pairs_few (a b : List (Int × List Str)) (is : Int → Int → Bool) : (pairsE a b is).length ≤ a.length * b.length := by
  unfold pairsE
  induction a with
  | nil => simp
  | cons x a ih =>
    rw [List.flatMap_cons, List.length_append, List.length_cons, Nat.succ_mul]
    have : ((b.filter fun y => (y.2 == x.2) && is x.1 y.1).map fun y => (x.1, y.1)).length ≤ b.length := by
      rw [List.length_map]; exact List.length_filter_le _ _
    omega
end Go.Prs
namespace Go.Proofs.YtgnebodlkfblcaaDoor
open Go.AM
open Go.Proofs
open Go.Col
open Go.Prs
set_option maxRecDepth 100000
theorem of_top (x : List EntryP) : ((ofE x).getD 0 default).cat = 0 ∧ ((ofE x).getD 0 default).level ≤ 49 := by
  have h0 : 0 < (rawE x).length := List.length_pos_iff.2 (raw_good x).ne
  have hg := of_good x
  refine ⟨?_, by rw [hg.root.1]; decide⟩
  rw [of_get h0]
  simp [catE, groupAt]
theorem pr_len {w₀ : World} {h : AHeap} {v : AVal} {ps : List (Int × Int)} (hv : IsL w₀ h 2 v (ps.map pairC)) : ∀ H : AHeap, pLenH Tryd.prog H 30 v = ⟨True, .int .i64 ps.length⟩ := by
  have := hv.len Tryd.underlying30
  rwa [List.length_map] at this
theorem pr_open {w₀ : World} {h : AHeap} {v : AVal} {ps : List (Int × Int)} (hv : IsL w₀ h 2 v (ps.map pairC)) (hn : 0 < ps.length) : ∃ lc o c, v = .slice lc o ps.length c := by
  obtain ⟨lc, o, c, e⟩ := hv.open (fun e => by rw [List.map_eq_nil_iff] at e; subst e; simp at hn)
  rw [List.length_map] at e
  exact ⟨lc, o, c, e⟩
theorem pr_elem {w₀ : World} {h : AHeap} {ps : List (Int × Int)} {lc : AM.Loc} {o n : Nat} {c : Cap} (hv : IsL w₀ h 2 (.slice lc o n c) (ps.map pairC)) {i : Nat} (hi : i < ps.length) : cellsAt w₀ h lc (o + i * 2) 2 = [.int .i64 (ps.getD i default).1, .int .i64 (ps.getD i default).2] ∧ rd w₀ h lc (o + i * 2) = .int .i64 (ps.getD i default).1 ∧ rd w₀ h lc (o + i * 2 + 1) = .int .i64 (ps.getD i default).2 := by
  have he := hv.elem (i := i) (by rw [List.length_map]; exact hi)
  rw [getD_map (ys := ps) default hi] at he
  have h0 := hv.at (i := i) (j := 0) (by rw [List.length_map]; exact hi) (by decide)
  have h1 := hv.at (i := i) (j := 1) (by rw [List.length_map]; exact hi) (by decide)
  rw [getD_map (ys := ps) default hi] at h0 h1
  exact ⟨he, h0, h1⟩
theorem pr_few (la lb : List ItemP) (g h : Int) (is : Int → Int → Bool) : (pairsE (pathsE la g true) (pathsE lb h true) is).length ≤ la.length * lb.length :=
  Nat.le_trans (pairs_few _ _ _) (Nat.mul_le_mul (paths_few _ _ _) (paths_few _ _ _))
end Go.Proofs.YtgnebodlkfblcaaDoor

/-
  The law PairsSwap.
  Conditions: none.
-/
namespace Go.Prs
theorem filter_getD {α : Type} [Inhabited α] {q : α → Bool} (l : List α) (j : Nat) (hj : j < l.length) : ((l.take (j + 1)).filter q).length = ((l.take j).filter q).length + if q (l.getD j default) then 1 else 0 := by
  rw [filter_next l j hj, List.getD, List.getElem?_eq_getElem hj]
  rfl
end Go.Prs
namespace Go.Proofs.YtgnebodlkfblcaaDoor
open Go.AM
open Go.Proofs
open Go.Col
open Go.Prs
set_option maxRecDepth 100000

end Go.Proofs.YtgnebodlkfblcaaDoor

/-
  The law PairsSelf.
  Conditions: none.
-/
namespace Go.Prs
theorem any_next {α : Type} [Inhabited α] {q : α → Bool} (l : List α) (j : Nat) (hj : j < l.length) : (l.take (j + 1)).any q = ((l.take j).any q || q (l.getD j default)) := by
  have ht : l.take (j + 1) = l.take j ++ [l.getD j default] := by rw [List.take_add_one, List.getD, List.getElem?_eq_getElem hj]; rfl
  rw [ht, List.any_append]
  simp
end Go.Prs
namespace Go.Proofs.YtgnebodlkfblcaaDoor
open Go.AM
open Go.Proofs
open Go.Col
open Go.Prs
set_option maxRecDepth 100000

set_option maxHeartbeats 4000000 in
theorem l_Self7 (w₀ : World) (ht10 : Tab10 w₀) (h H : AHeap) (k7 : Nat) (sa : AVal) (la : List (ItemP × ItemO)) (c0 : List EntryP) (d : Bool) (a1 : UInt8) (hia : items la = renE d (ofE c0)) (hga : ∀ g, GrpOk w₀ H sa g la) (hsc : sa.scal = true) (hs_H : Sub h H) (eb_7 : H k7 = some ⟨[sa, .int .i64 0], 0⟩) :
    Awp Tryd.prog w₀ 133 (dropSeq 3 (bodyOf Tryd.f5)) (retA Tryd.prog w₀ [.tmp 6] (fun x h' => x = .bool true ∧ h' = h)) [(1, .int .u8 a1.toNat), (2, .bool d), (7, .ptr (.own k7) 0)] (H) := by
  have ha1 : a1.toNat < 256 := a1.toNat_lt
  have hra := (hga 0).row
  have hlsa := hra.live
  have hlla : la.length ≤ 21 := by rw [← items_len, hia, ren_len, of_len]; omega
  have hina := items_len la
  have hla0 : 0 < la.length := by rw [← hina, hia, ren_len, of_len]; omega
  have hc0 : 0 < (ofE c0).length := by rw [of_len]; omega
  obtain ⟨ga, hga'⟩ : ∃ g, g = groupE (items la) a1.toNat := ⟨_, rfl⟩
  have hca : checkE (items la) (ga : Int) = 0 := by rw [hga', hia]; exact (ren_check d c0 _).1
  have hGa : Prs.Good (items la) := by rw [hia]; exact ren_good d (of_good c0)
  have htop : ((items la).getD 0 default).cat = 0 ∧ ((items la).getD 0 default).level ≤ 49 := by
    have h1 := ren_same d hc0
    have h2 := of_top c0
    rw [hia, h1.1, h1.2.2]
    exact h2
  have nl := it_len hra
  obtain ⟨P, hP⟩ : ∃ P, P = pairsE (pathsE (items la) ga true) (pathsE (items la) ga true) (isP (items la) (items la)) := ⟨_, rfl⟩
  have hPl : P.length ≤ 441 := by
    have h1 := pr_few (items la) (items la) ga ga (isP (items la) (items la))
    have h2 : (items la).length * (items la).length ≤ 21 * 21 := Nat.mul_le_mul (by omega) (by omega)
    rw [hP]; omega
  have eP : amongR (items la) (items la) ga ga (isP (items la) (items la)) = (P, 0) := by
    unfold amongR
    rw [if_neg (by rw [hca]; simp), if_neg (by rw [hca]; simp), hP]
  change Awp _ _ _ (Code.seq _ _) _ _ _
  -- region 7  law.go:193
  refine awp_rseq [2, 7, 9] (by rfl) fun K hK => ?_
  simp (decide := true) only [ev, putD, Slots.put, Slots.get, if_true, if_false, true_and, ↓ap_fieldAddr, pop_fieldAddr, fa27_0, ↓ap_loadL, apL_mk, pLoad_one ag25, ↓ap_move, pop_move, rd_own w₀ eb_7, List.getD_cons_zero, Nat.zero_add, hlsa]
  refine aOps_callV (V := .int .i64 ga) (by rfl) (by rfl) (by rw [hga']; exact c_group w₀ _ sa a1.toNat la (hra.mono (by repeat (first | exact Sub.refl _ | assumption | refine Sub.set_both ?_ _ _ | refine Sub.trans_set ?_ (by repeat (first | assumption | refine (AHeap.set_ne _ _ (by first | assumption | exact Ne.symm (by assumption))).trans ?_))))) ha1 hla0 htop (by omega)) ?_
  simp (decide := true) only [aOps_nil, ev, putD, Slots.put, Slots.get, Slots.keep, if_true, if_false, true_and, ↓ap_assign, pop_assign]
  apply hK; clear hK K
  -- region 8  law.go:194
  refine awp_rseq [2, 7, 9, 10] (by rfl) fun K hK => ?_
  simp (decide := true) only [ev, absV, absS, putD, Slots.put, Slots.get, if_true, if_false, true_and, ↓ap_loadL, apL_mk, pLoad_agg ag27 sz27, ↓ap_move, pop_move, ↓ap_build, ↓pop_buildL, bld35_0_1, evP, List.map_cons, List.map_nil, rd_own w₀ eb_7, cellsAt, List.getD_cons_zero, List.getD_cons_succ, Nat.zero_add, lv_int, allLive, Bool.and_true, hlsa]
  refine aOps_alloc ze35 (cs := [.nilSlice, .int .i64 0, .int .i64 0]) (by rfl) fun k8q3 hk8q3 => ?_
  have hn_8q3 : H k8q3 = none := by first | assumption | (simp only [AHeap.set_none] at hk8q3; simp only [hk8q3])
  have hf_8q3 : h k8q3 = none := Sub.none hs_H hn_8q3
  have ne_8q3_7 : k8q3 ≠ k7 := AHeap.ne_some hn_8q3 eb_7
  refine aOps_store (by rfl) (by rfl) (by repeat (first | exact AHeap.set_same _ _ _ | assumption | refine (AHeap.set_ne _ _ (by first | assumption | exact Ne.symm (by assumption))).trans ?_)) sz35 (by rfl) (by rfl) (by first | exact Nat.le_refl _ | decide | (simp; done) | (simp; omega)) (Nat.zero_le _) (by first | rfl | (simp (decide := true) only [ev, putD, Slots.put, Slots.get, if_true, if_false, AVal.cells, allScal, Bool.and_true, hsc, sc_int])) ?_
  simp only [AHeap.set_set, AVal.cells]
  simp (decide := true) only [aOps_nil, ev, putD, Slots.put, Slots.get, Slots.keep, if_true, if_false, setAt, List.set_cons_zero, List.set_cons_succ, Nat.zero_add, Nat.reduceAdd]
  apply hK; clear hK K
  -- region 9  law.go:195
  refine awp_rseq [2, 7, 9, 11, 12] (by rfl) fun K hK => ?_
  simp (decide := true) only [ev, putD, Slots.put, Slots.get, if_true, if_false, true_and, ↓ap_loadL, apL_mk, pLoad_agg ag35 sz35, rd_any, cellsAt, List.getD_cons_zero, List.getD_cons_succ, Nat.zero_add, Nat.reduceAdd, lv_int, allLive, Bool.and_true, hlsa]
  refine aOps_call (by rfl) (by rfl) (c_Pairs w₀ ht10 _ sa sa 0 0 ga ga la la ((hga _).mono (by repeat (first | exact Sub.refl _ | assumption | refine Sub.set_both ?_ _ _ | refine Sub.trans_set ?_ (by repeat (first | assumption | refine (AHeap.set_ne _ _ (by first | assumption | exact Ne.symm (by assumption))).trans ?_))))) ((hga _).mono (by repeat (first | exact Sub.refl _ | assumption | refine Sub.set_both ?_ _ _ | refine Sub.trans_set ?_ (by repeat (first | assumption | refine (AHeap.set_ne _ _ (by first | assumption | exact Ne.symm (by assumption))).trans ?_)))))) fun x9q2 h9q2 hx9q2 => ?_
  obtain ⟨pv, rfl, hpv, hcp, hs9⟩ := hx9q2
  rw [eP] at hpv ⊢
  have hlpv := hpv.live
  have hs_h9q2 : Sub h h9q2 := Sub.trans (by repeat (first | exact Sub.refl _ | assumption | refine Sub.trans_set ?_ (by assumption))) hs9
  have hr_h9q2 : Sub H h9q2 := Sub.trans (by repeat (first | exact Sub.refl _ | assumption | refine Sub.trans_set ?_ (by assumption))) hs9
  have eb_8q3 := hs9 k8q3 _ (by repeat (first | exact AHeap.set_same _ _ _ | assumption | refine (AHeap.set_ne _ _ (by first | assumption | exact Ne.symm (by assumption))).trans ?_))
  have eb_7 := hs9 k7 _ (by repeat (first | exact AHeap.set_same _ _ _ | assumption | refine (AHeap.set_ne _ _ (by first | assumption | exact Ne.symm (by assumption))).trans ?_))
  simp (decide := true) only [aOps_nil, ev, putD, Slots.put, Slots.get, Slots.keep, if_true, if_false, true_and, ↓ap_move, pop_move, ↓ap_extract, pop_extract, pExt_tuple, List.length_cons, List.length_nil, List.getD_cons_zero, List.getD_cons_succ, ↓ap_assign, pop_assign, List.getD_cons_zero, List.getD_cons_succ, Nat.zero_add, Nat.reduceAdd]
  apply hK; clear hK K
  refine awp_seq ?_
  have hpv9 : IsL w₀ h9q2 2 pv (P.map pairC) := hpv
  have lp := pr_len hpv9
  have hra9 := hra.mono hr_h9q2
  -- region 10  law.go:196
  refine awp_rseq [2, 7, 9, 11, 65] (by rfl) fun K hK => ?_
  simp (decide := true) only [aOps_nil, ev, absV, absS, putD, Slots.put, Slots.get, Slots.keep, if_true, if_false, true_and, ↓ap_move, pop_move, ↓ap_binOp, pop_binOp, isNilC_int, cond_false, pBinX_int, pI_neq]
  apply hK; clear hK K
  refine awp_cond (b := _) rfl (fun hb1 => ?_) (fun hb1 => ?_)
  · exact absurd hb1 (by simp)
  · try simp only [decide_eq_true_eq, Bool.not_eq_false'] at hb1
    refine awp_skip ?_
    change Awp _ _ _ _ _ _ _
    refine awp_seq ?_
    -- region 12  law.go:199
    refine awp_rseq [2, 7, 9, 11, 13] (by rfl) fun K hK => ?_
    simp (decide := true) only [aOps_nil, ev, absV, absS, putD, Slots.put, Slots.keep, if_true, if_false, true_and, ↓ap_assign, pop_assign]
    apply hK; clear hK K
    refine awp_block ?_
    refine awp_loopG [2, 7, 9, 11, 13] (fun k : Nat => [(2, .bool d), (7, .ptr (.own k7) 0), (9, .int .i64 ga), (11, pv), (13, .int .i64 k)]) (fun k : Nat => h9q2) (fun k : Nat => k ≤ la.length) (fun k : Nat => la.length - k) 0 (by rfl) (Sub.refl _) (Nat.zero_le _) ?_
    rintro k hk
    refine awp_seq ?_
    -- region 13  law.go:199
    refine awp_rseq [2, 7, 9, 11, 13, 70] (by rfl) fun K hK => ?_
    simp (decide := true) only [aOps_nil, ev, putD, Slots.put, Slots.get, Slots.keep, if_true, if_false, true_and, ↓ap_move, pop_move, ↓ap_fieldAddr, pop_fieldAddr, fa27_0, ↓ap_loadL, apL_mk, pLoad_one ag25, ↓ap_len, pop_len, ↓ap_binOp, pop_binOp, isNilC_tmp, cond_false, pBinX_int, pI_lss, rd_own w₀ eb_7, List.getD_cons_zero, Nat.zero_add, hlsa, nl]
    apply hK; clear hK K
    refine awp_cond (b := _) rfl (fun hb2 => ?_) (fun hb2 => ?_)
    · try simp only [decide_eq_true_eq] at hb2
      have hk' : k < la.length := by omega
      refine awp_skip ?_
      change Awp _ _ _ _ _ _ _
      refine awp_seq ?_
      refine awp_block ?_
      -- region 15  law.go:200
      refine awp_rseq [2, 7, 9, 11, 13, 15, 16] (by rfl) fun K hK => ?_
      simp (decide := true) only [ev, putD, Slots.put, Slots.get, if_true, if_false, true_and, ↓ap_fieldAddr, pop_fieldAddr, fa27_0, ↓ap_loadL, apL_mk, pLoad_one ag25, ↓ap_move, pop_move, rd_own w₀ eb_7, List.getD_cons_zero, Nat.zero_add, hlsa]
      refine aOps_call (by rfl) (by rfl) (c_pathL w₀ _ sa ga k la hra9 hGa hk' (by omega)) fun x15q4 h15q4 hx15q4 => ?_
      obtain ⟨nv, rfl, hnv0, hs15⟩ := hx15q4
      have hlnv := (hnv0.mono (offH_sub _ _)).live
      have hs_h15q4 : Sub h h15q4 := Sub.trans (by repeat (first | exact Sub.refl _ | assumption | refine Sub.trans_set ?_ (by assumption))) hs15
      have hr_h15q4 : Sub h9q2 h15q4 := Sub.trans (by repeat (first | exact Sub.refl _ | assumption | refine Sub.trans_set ?_ (by assumption))) hs15
      have eb_7 := hs15 k7 _ (by repeat (first | exact AHeap.set_same _ _ _ | assumption | refine (AHeap.set_ne _ _ (by first | assumption | exact Ne.symm (by assumption))).trans ?_))
      have eb_8q3 := hs15 k8q3 _ (by repeat (first | exact AHeap.set_same _ _ _ | assumption | refine (AHeap.set_ne _ _ (by first | assumption | exact Ne.symm (by assumption))).trans ?_))
      simp (decide := true) only [aOps_nil, ev, putD, Slots.put, Slots.get, Slots.keep, if_true, if_false, true_and, ↓ap_move, pop_move, ↓ap_extract, pop_extract, pExt_tuple, List.length_cons, List.length_nil, List.getD_cons_zero, List.getD_cons_succ, ↓ap_assign, pop_assign, List.getD_cons_zero, List.getD_cons_succ, Nat.zero_add, Nat.reduceAdd]
      apply hK; clear hK K
      have hra15 := hra9.mono hr_h15q4
      obtain ⟨lca, oa, ca, rfl⟩ := it_open hra15 hla0
      have qa := it_rd hra15 (i := k) (by omega) (j := 3) (by decide)
      have qa' : rd w₀ h15q4 lca (oa + k * 22 + 3) = .int .u8 (catOf (items la) k) := by
       rw [qa]; unfold catOf; rw [Int.toNat_natCast, items_getD]; rfl
      -- region 16  law.go:201
      refine awp_rseq [2, 7, 9, 11, 13, 17] (by rfl) fun K hK => ?_
      simp (decide := true) only [aOps_nil, ev, absV, absS, putD, Slots.put, Slots.get, Slots.keep, if_true, if_false, true_and, ↓ap_move, pop_move, ↓ag_move, agP, agQ_some, nthDst, gKnown_bool, guardB_bool_true, implies_true, ↓ap_pick, pop_pick, pPick_bool, pickV_cond_l, pickV_and, ↓ag_fieldAddr, pop_fieldAddr, fa27_0, cv_fieldAddr, cp_fieldAddr, ↓ag_loadL, agQL_some, agL_mk, agL_ld1, pLoad_one ag25, ↓ag_indexAddrL, agL_il1, agL_ir1, pIndexAddr_slice Tryd.underlying25 sz44, fa44_3, fa41_0, pLoad_one ag38, ↓ag_binOp, pop_binOp, isNilC_int, cond_false, cv_binl, cp_binl, pBinX_int, pI_neq, ↓ap_assign, pop_assign, rd_own w₀ eb_7, List.getD_cons_zero, Nat.zero_add, lv_int, hlsa, qa', Int.toNat_natCast]
      repeat (with_reducible refine And.intro ?_ ?_; · first | trivial | omega | (intro hg; simp only [Bool.and_eq_true, Bool.or_eq_true, Bool.not_eq_true', Bool.and_eq_false_iff, Bool.or_eq_false_iff, Bool.not_eq_false', decide_eq_true_eq, decide_eq_false_iff_not, eqNil] at hg; omega) )
      apply hK; clear hK K
      obtain ⟨W, hW⟩ : ∃ W, W = (belowE (items la) ga k && goodE (items la) ga k && !decide (catOf (items la) k = 0)) := ⟨_, rfl⟩
      rw [← hW]
      have hpv15 := hpv9.mono hr_h15q4
      obtain ⟨q1, hq1⟩ : ∃ q : Int × Int → Bool, q = fun z => decide (z.1 = (k : Int)) && decide (z.2 = (k : Int)) := ⟨_, rfl⟩
      obtain ⟨q2, hq2⟩ : ∃ q : Int × Int → Bool, q = fun z => decide (z.1 = (k : Int)) := ⟨_, rfl⟩
      have hfound : P.any q1 = W := by
       have h1 := self_found hca (k := k) (by omega)
       rw [← hP] at h1
       have h2 : decide (catOf (items la) k ≠ 0) = !decide (catOf (items la) k = 0) := by simp
       rw [h2, ← hW] at h1
       rw [Bool.eq_iff_iff, ← h1, List.any_eq_true, hq1]
       constructor
       · rintro ⟨⟨x, y⟩, hm, he⟩
         simp only [Bool.and_eq_true, decide_eq_true_eq] at he
         rw [he.1, he.2] at hm
         exact hm
       · intro hm
         exact ⟨_, hm, by simp⟩
      have hmany : d = true → (P.filter q2).length ≤ 1 := by
       intro hd
       subst hd
       rw [hP, hq2]
       refine self_once hca (fun i j hi hj ei ej hn => ?_) k
       rw [hia] at hi hj ei ej hn
       exact ren_diff (by rw [of_len]; omega) hi hj ei ej hn
      -- region 17  law.go:202
      refine awp_rseq [2, 7, 9, 11, 13, 17, 18] (by rfl) fun K hK => ?_
      simp (decide := true) only [aOps_nil, ev, absV, absS, putD, Slots.put, Slots.keep, if_true, if_false, true_and, ↓ap_assign, pop_assign]
      apply hK; clear hK K
      -- region 18  law.go:203
      refine awp_rseq [2, 7, 9, 11, 13, 17, 18, 19] (by rfl) fun K hK => ?_
      simp (decide := true) only [aOps_nil, ev, absV, absS, putD, Slots.put, Slots.keep, if_true, if_false, true_and, ↓ap_assign, pop_assign]
      apply hK; clear hK K
      refine awp_seq ?_
      -- region 19  law.go:204
      refine awp_rseq [2, 7, 9, 11, 13, 17, 18, 19, 20] (by rfl) fun K hK => ?_
      simp (decide := true) only [aOps_nil, ev, absV, absS, putD, Slots.put, Slots.keep, if_true, if_false, true_and, ↓ap_assign, pop_assign]
      apply hK; clear hK K
      refine awp_block ?_
      refine awp_loopG [2, 7, 9, 11, 13, 17, 18, 19, 20] (fun j : Nat => [(2, .bool d), (7, .ptr (.own k7) 0), (9, .int .i64 ga), (11, pv), (13, .int .i64 k), (17, .bool W), (18, .bool ((P.take j).any q1)), (19, .int .i64 ((P.take j).filter q2).length), (20, .int .i64 j)]) (fun j : Nat => h15q4) (fun j : Nat => j ≤ P.length) (fun j : Nat => P.length - j) 0 (by rfl) (Sub.refl _) (Nat.zero_le _) ?_
      rintro j hj
      refine awp_seq ?_
      -- region 20  law.go:204
      refine awp_rseq [2, 7, 9, 11, 13, 17, 18, 19, 20, 99] (by rfl) fun K hK => ?_
      simp (decide := true) only [aOps_nil, ev, putD, Slots.put, Slots.get, Slots.keep, if_true, if_false, true_and, ↓ap_move, pop_move, ↓ap_len, pop_len, ↓ap_binOp, pop_binOp, isNilC_tmp, cond_false, pBinX_int, pI_lss, lp]
      apply hK; clear hK K
      refine awp_cond (b := _) rfl (fun hb3 => ?_) (fun hb3 => ?_)
      · try simp only [decide_eq_true_eq] at hb3
        have hj' : j < P.length := by omega
        obtain ⟨lp1, op1, cp1, rfl⟩ := pr_open hpv15 (by omega)
        obtain ⟨m, hm⟩ : ∃ m, P.getD j default = m := ⟨_, rfl⟩
        have ep := pr_elem hpv15 hj'
        rw [hm] at ep
        obtain ⟨ep0, ep1, ep2⟩ := ep
        have hq1m : q1 m = (decide (m.1 = k) && decide (m.2 = k)) := by rw [hq1]
        have hq2m : q2 m = decide (m.1 = k) := by rw [hq2]
        have hany := any_next (q := q1) P j hj'
        have hnext := filter_getD (q := q2) P j hj'
        rw [hm] at hany hnext
        obtain ⟨n, hn⟩ : ∃ n, n = ((P.take j).filter q2).length := ⟨_, rfl⟩
        have hnj : n ≤ j := by rw [hn]; exact filter_le q2 P j
        rw [← hn] at hnext ⊢
        obtain ⟨f, hf⟩ : ∃ f, f = (P.take j).any q1 := ⟨_, rfl⟩
        rw [← hf] at hany ⊢
        refine awp_skip ?_
        change Awp _ _ _ _ _ _ _
        refine awp_seq ?_
        refine awp_block ?_
        cases f
        all_goals
          -- region 22  law.go:205
          refine awp_rseq [2, 7, 9, 11, 13, 17, 18, 19, 20] (by rfl) fun K hK => ?_
          simp (decide := true) only [aOps_nil, ev, absV, absS, putD, Slots.put, Slots.get, Slots.keep, if_true, if_false, true_and, ↓ap_move, pop_move, ↓ag_move, agP, agQ_some, nthDst, gKnown_bool, guardB_bool_false, implies_true, Bool.not_false, Bool.not_true, condV_true, condV_false, forall_const, false_implies, pickV_true, Bool.and_true, Bool.false_or, agL_deadT, ↓ag_indexAddrL, agQL_some, agL_mk, pIndexAddr_slice Tryd.underlying30 sz37, ↓ag_loadL, pLoad_agg ag37 sz37, ↓ag_build, ↓pop_buildL, bld37_0_1, evP, List.map_cons, List.map_nil, ↓ag_binOp, pop_binOp, isNilC_tmp, cond_false, pBinX_agg, eq37, ↓ap_pick, pop_pick, pPick_bool, pickV_or, ↓ap_assign, pop_assign, lv_int, allLive, Bool.and_true, ↓ep0, Int.toNat_natCast]
          repeat (with_reducible refine And.intro ?_ ?_; · first | trivial | omega | (intro hg; simp only [Bool.and_eq_true, Bool.or_eq_true, Bool.not_eq_true', Bool.and_eq_false_iff, Bool.or_eq_false_iff, Bool.not_eq_false', decide_eq_true_eq, decide_eq_false_iff_not, eqNil] at hg; omega) )
          apply hK; clear hK K
          -- region 23  law.go:206
          refine awp_rseq [2, 7, 9, 11, 13, 17, 18, 19, 20, 119] (by rfl) fun K hK => ?_
          simp (decide := true) only [aOps_nil, ev, absV, absS, putD, Slots.put, Slots.get, Slots.keep, if_true, if_false, true_and, ↓ap_move, pop_move, ↓ap_indexAddrL, apL_mk, pIndexAddr_slice Tryd.underlying30 sz37, pIndexAddr_ptr Tryd.underlying37 sz3, ↓ap_loadL, pLoad_one ag3, ↓ap_binOp, pop_binOp, isNilC_tmp, cond_false, pBinX_int, pI_eql, lv_int, ep1, Int.toNat_natCast, Int.toNat_zero, Nat.zero_mul, Nat.add_zero]
          repeat (with_reducible refine And.intro ?_ ?_; · first | trivial | omega | (intro hg; simp only [Bool.and_eq_true, Bool.or_eq_true, Bool.not_eq_true', Bool.and_eq_false_iff, Bool.or_eq_false_iff, Bool.not_eq_false', decide_eq_true_eq, decide_eq_false_iff_not, eqNil] at hg; omega) )
          apply hK; clear hK K
          refine awp_cond (b := _) rfl (fun hb4 => ?_) (fun hb4 => ?_)
          · try simp only [decide_eq_true_eq] at hb4
            have hqt : q2 m = true := by rw [hq2m]; simp [hb4]
            rw [if_pos hqt] at hnext
            -- region 24  law.go:207
            refine awp_r [2, 7, 9, 11, 13, 17, 18, 19, 20] (by rfl) ?_
            simp (decide := true) only [aOps_nil, ev, absV, absS, putD, Slots.put, Slots.get, Slots.keep, if_true, if_false, true_and, ↓ap_move, pop_move, ↓ap_binOp, pop_binOp, isNilC_int, cond_false, pBinX_int, pI_add, ↓ap_assign, pop_assign]
            try simp (disch := omega) only [wrap_i64]
            change Awp _ _ _ _ _ _ _
            -- region 21  law.go:204
            refine awp_r [2, 7, 9, 11, 13, 17, 18, 19, 20] (by rfl) ?_
            simp (decide := true) only [aOps_nil, ev, absV, absS, putD, Slots.put, Slots.get, Slots.keep, if_true, if_false, true_and, ↓ap_move, pop_move, ↓ap_binOp, pop_binOp, isNilC_int, cond_false, pBinX_int, pI_add, ↓ap_assign, pop_assign]
            try simp (disch := omega) only [wrap_i64]
            try simp only [thenA_normal]
            refine ⟨j + 1, ?_, Sub.refl _, hj', by omega⟩
            rw [hnext, hany, hq1m]
            rfl
          · try simp only [decide_eq_false_iff_not] at hb4
            have hqf : ¬ q2 m = true := by rw [hq2m]; simp [hb4]
            rw [if_neg hqf, Nat.add_zero] at hnext
            refine awp_skip ?_
            change Awp _ _ _ _ _ _ _
            -- region 21  law.go:204
            refine awp_r [2, 7, 9, 11, 13, 17, 18, 19, 20] (by rfl) ?_
            simp (decide := true) only [aOps_nil, ev, absV, absS, putD, Slots.put, Slots.get, Slots.keep, if_true, if_false, true_and, ↓ap_move, pop_move, ↓ap_binOp, pop_binOp, isNilC_int, cond_false, pBinX_int, pI_add, ↓ap_assign, pop_assign]
            try simp (disch := omega) only [wrap_i64]
            try simp only [thenA_normal]
            refine ⟨j + 1, ?_, Sub.refl _, hj', by omega⟩
            rw [hnext, hany, hq1m]
            rfl
      · try simp only [decide_eq_false_iff_not] at hb3
        obtain rfl : j = P.length := by omega
        rw [List.take_of_length_le (Nat.le_refl _), hfound]
        obtain ⟨n, hn⟩ : ∃ n, n = (P.filter q2).length := ⟨_, rfl⟩
        rw [← hn] at hmany ⊢
        refine awp_exit ?_
        change Awp _ _ _ _ _ _ _
        -- region 25  law.go:210
        refine awp_rseq [2, 7, 9, 11, 13, 131] (by rfl) fun K hK => ?_
        simp (decide := true) only [aOps_nil, ev, absV, absS, putD, Slots.put, Slots.get, Slots.keep, if_true, if_false, true_and, ↓ap_move, pop_move, ↓ap_binOp, pop_binOp, isNilC_tmp, cond_false, pBinX_bne, Tryd.underlying4, ↓ag_move, agP, agQ_some, nthDst, gKnown_bool, gKnown_cond, guardB_cond, guardB_bool_true, guardB_bool_false, cv_cv, implies_true, Bool.not_not, ↓ag_binOp, isNilC_int, cv_binl, cp_binl, pBinX_int, pI_gtr, ↓ag_pick, pop_pick, pPick_bool, pickV_cond_rn, cp_nest1, pickV_and, pickV_or, cv_pick, cp_pick, ↓ap_pick]
        apply hK; clear hK K
        refine awp_cond (b := _) rfl (fun hb5 => ?_) (fun hb5 => ?_)
        · try simp only [decide_eq_true_eq, Bool.not_eq_true', Bool.and_eq_true, Bool.or_eq_true] at hb5
          rcases hb5 with e | ⟨e1, e2⟩
          · simp at e
          · have := hmany e1
            omega
        · try simp only [decide_eq_false_iff_not, Bool.not_eq_false', Bool.and_eq_false_iff, Bool.or_eq_false_iff] at hb5
          refine awp_skip ?_
          change Awp _ _ _ _ _ _ _
          -- region 14  law.go:199
          refine awp_r [2, 7, 9, 11, 13] (by rfl) ?_
          simp (decide := true) only [aOps_nil, ev, absV, absS, putD, Slots.put, Slots.get, Slots.keep, if_true, if_false, true_and, ↓ap_move, pop_move, ↓ap_binOp, pop_binOp, isNilC_int, cond_false, pBinX_int, pI_add, ↓ap_assign, pop_assign]
          try simp (disch := omega) only [wrap_i64]
          try simp only [thenA_normal]
          exact ⟨k + 1, rfl, hr_h15q4, hk', by omega⟩
    · try simp only [decide_eq_false_iff_not] at hb2
      refine awp_exit ?_
      change Awp _ _ _ _ _ _ _
      -- region 27  law.go:214
      refine awp_rseq [6] (by rfl) fun K hK => ?_
      refine aOps_callV (V := .bool true) (by rfl) (by rfl) (c_lives w₀ ht10 _) ?_
      simp (decide := true) only [aOps_nil, ev, putD, Slots.put, Slots.get, Slots.keep, if_true, if_false, true_and, ↓ap_assign, pop_assign]
      apply hK; clear hK K
      refine awp_ret ?_
      refine retA_ret h (by repeat (first | exact Sub.refl _ | assumption | refine Sub.trans_set ?_ (by assumption))) (resPre_tmp (resPre_nil)) ?_
      simp (decide := true) only [Slots.get, if_true, and_true, resOf_one]
      all_goals first | rfl | exact ⟨rfl, rfl⟩ | (simp (decide := true) only [if_true, if_false, *]; done) | (trace_state; fail)

/-! ### Names made different -/
def nmO (s : Str) (q : ItemP × ItemO) : ItemP × ItemO := ({ q.1 with name := s }, q.2)
theorem nmO_set {l : List (ItemP × ItemO)} {i : Nat} (hi : i < l.length) (s : Str) : (l.map itC).flatten.set (i * 22) (.str s) = ((l.set i (nmO s (l.getD i default))).map itC).flatten := by
  have h1 := flat_set1 (es := 22) (AVal.str s) (xs := l.map itC) it_wide i 0 (by rw [List.length_map]; exact hi) (by decide)
  rw [Nat.add_zero] at h1
  rw [h1, List.map_set]
  congr 2
  rw [List.getD, List.getElem?_map, List.getElem?_eq_getElem hi, List.getD, List.getElem?_eq_getElem hi]
  rfl
theorem aOps_storeName {P : Program} {w₀ : World} {ops rest : List Oper} {s : Slots} {H : AHeap} {K : Slots → AHeap → Prop} {dst : Option Tmp} {ty : TypeId} {pos : String} {af : Array Edge} {t : TypeId} {x y : Operand} {k i : Nat} {l : List (ItemP × ItemO)} {nm : Str}
    (hx : ev s x = .ptr (.own k) (i * 22)) (hv : ev s y = .str nm) (hb : H k = some ⟨(l.map itC).flatten, 0⟩) (hi : i < l.length) (hn : szOf P t = some 1)
    (hk : aOps P w₀ ops rest (putD s dst (.tuple [])) (H.set k ⟨((l.set i (nmO nm (l.getD i default))).map itC).flatten, 0⟩) K) :
    aOps P w₀ ops (⟨dst, .store t x y, ty, pos, af, none⟩ :: rest) s H K := by
  refine aOps_store hx hv hb hn rfl rfl ?_ (Nat.zero_le _) rfl ?_
  · simp only
    rw [flatten_len (es := 22) it_wide, List.length_map]
    omega
  · simp only [AVal.cells, setAt]
    rw [nmO_set hi]
    exact hk
theorem conv_one (w₀ : World) (H : AHeap) (k : Nat) (b : UInt8) : pConv Tryd.prog w₀ (H.set k ⟨byteCells [b], 0⟩) 47 9 (.slice (.own k) 0 1 (.exact 1)) = ⟨True, .str [b]⟩ := by
  rw [pConv_bytes Tryd.underlying47 Tryd.underlying9 Tryd.underlying5, cellsAt_own (AHeap.set_same _ _ _) 0 1 (by simp [byteCells])]
  have h1 := byteCells_byte [b]
  have h2 := byteCells_isU8 [b]
  have h3 : ((byteCells [b]).drop 0).take 1 = byteCells [b] := rfl
  simp only [h3, h1, h2]
structure SfG where
  i : Nat
  H : AHeap
  l : List (ItemP × ItemO)
structure SfP (h : AHeap) (k7 kr : Nat) (sl : AVal) (x : List ItemP) (n : Nat) (s : SfG) : Prop where
  i : s.i ≤ n
  sub : Sub h s.H
  res : s.H k7 = some ⟨[sl, .int .i64 0], 0⟩
  row : s.H kr = some ⟨(s.l.map itC).flatten, 0⟩
  len : s.l.length = n
  at_ : ∀ j, j < n → (s.l.getD j default).1 = (if j < s.i then (renE true x).getD j default else x.getD j default) ∧ (s.l.getD j default).2.val = .nilSlice
theorem sfp_step {h H H' : AHeap} {k7 kr n i : Nat} {sl : AVal} {x : List ItemP} {l l' : List (ItemP × ItemO)} (hok : SfP h k7 kr sl x n ⟨i, H, l⟩) (hi : i < n) (hs : Sub h H') (he : H' k7 = H k7) (hr : H' kr = some ⟨(l'.map itC).flatten, 0⟩) (hl : l'.length = n)
    (h0 : (l'.getD i default).1 = (renE true x).getD i default ∧ (l'.getD i default).2.val = .nilSlice) (h1 : ∀ j, j ≠ i → l'.getD j default = l.getD j default) : SfP h k7 kr sl x n ⟨i + 1, H', l'⟩ := by
  obtain ⟨-, -, ea, -, -, ha⟩ := hok
  simp only at ea ha
  refine ⟨hi, hs, he.trans ea, hr, hl, fun j hj => ?_⟩
  simp only
  by_cases e : j = i
  · subst e
    rw [if_pos (Nat.lt_succ_self _)]
    exact h0
  · rw [h1 j e, (ha j hj).1]
    refine ⟨?_, (ha j hj).2⟩
    by_cases h : j < i
    · rw [if_pos h, if_pos (by omega)]
    · rw [if_neg h, if_neg (by omega)]
theorem ren_false (x : List ItemP) : renE false x = x := by
  unfold renE
  refine List.ext_getElem (by simp) fun i h1 h2 => ?_
  simp
theorem ren_names {d : Bool} {x : List ItemP} (h : ∀ y ∈ x, y.name.length ≤ 6) : ∀ y ∈ renE d x, y.name.length ≤ 6 := by
  intro y hy
  obtain ⟨i, hi, rfl⟩ := List.getElem_of_mem hy
  have hi' : i < x.length := by rw [ren_len] at hi; exact hi
  have e : (renE d x)[i] = (renE d x).getD i default := by rw [List.getD, List.getElem?_eq_getElem hi]; rfl
  rw [e, ren_get d hi']
  have hx : (x.getD i default).name.length ≤ 6 := by
    refine h _ ?_
    rw [List.getD, List.getElem?_eq_getElem hi']
    exact List.getElem_mem hi'
  split
  · show (2 : Nat) ≤ 6
    decide
  · exact hx
theorem sfp_done {h : AHeap} {k7 kr n : Nat} {sl : AVal} {x : List ItemP} {d : Bool} {s : SfG} (hok : SfP h k7 kr sl x n s) (hn : x.length = n) (hd : d = true ∧ n ≤ s.i ∨ d = false ∧ s.i = 0) : items s.l = renE d x ∧ ∀ q ∈ s.l, q.2.val = .nilSlice := by
  obtain ⟨-, -, -, -, hl, ha⟩ := hok
  constructor
  · refine List.ext_getElem (by rw [items_len, hl, ren_len, hn]) fun j h1 h2 => ?_
    have hj : j < n := by rw [items_len, hl] at h1; exact h1
    have h0 := (ha j hj).1
    have e1 : (items s.l)[j] = (s.l.getD j default).1 := by
      rw [← items_getD, List.getD, List.getElem?_eq_getElem h1]; rfl
    have e2 : (renE d x)[j] = (renE d x).getD j default := by
      rw [List.getD, List.getElem?_eq_getElem h2]; rfl
    rw [e1, e2, h0]
    rcases hd with ⟨rfl, hd⟩ | ⟨rfl, hd⟩
    · rw [if_pos (by omega)]
    · rw [if_neg (by omega), ren_false]
  · intro q hq
    obtain ⟨j, hj, rfl⟩ := List.getElem_of_mem hq
    have := (ha j (by omega)).2
    rwa [List.getD, List.getElem?_eq_getElem hj] at this

set_option maxHeartbeats 4000000 in
theorem l_PairsSelf (w₀ : World) (ht10 : Tab10 w₀) (h : AHeap) (v0 : AVal) (c0 : List EntryP) (hm0 : IsL w₀ h 4 v0 (c0.map entC)) (hl0 : c0.length ≤ 9223372036854775807) (hk0 : ∀ e ∈ c0, EntOk e) (a1 : UInt8) (d : Bool) :
    ACall Tryd.prog w₀ 5 [v0, .int .u8 a1.toNat, .bool d] h (fun x _ => x = .bool true) := by
  refine ACall.mono (R := fun x h' => x = .bool true ∧ h' = h) ?_ fun x h' hx => hx.1
  have hlv0 := hm0.live
  refine acall_intro (n := 133) (rs := [.tmp 6]) Tryd.func5 rfl rfl rfl rfl (Nat.le_of_ble_eq_true rfl) ?_
  simp only [initSlots]
  -- region 0  law.go:186
  refine awp_rseq [0, 1, 2] (by rfl) fun K hK => ?_
  simp (decide := true) only [aOps_nil, ev, absV, absS, putD, Slots.put, Slots.keep, if_true, if_false, true_and, ↓ap_assign, pop_assign, Nat.zero_add, Nat.reduceAdd]
  apply hK; clear hK K
  -- region 1  law.go:187
  refine awp_rseq [1, 2, 7] (by rfl) fun K hK => ?_
  simp (decide := true) only [ev, putD, Slots.put, Slots.get, if_true, if_false, true_and, ↓ap_move, pop_move]
  refine aOps_call (by rfl) (by rfl) (c_Of w₀ _ v0 c0 (hm0.mono (by repeat (first | exact Sub.refl _ | assumption | refine Sub.set_both ?_ _ _ | refine Sub.trans_set ?_ (by repeat (first | assumption | refine (AHeap.set_ne _ _ (by first | assumption | exact Ne.symm (by assumption))).trans ?_))))) hk0 hl0) fun x1q1 h1q1 hx1q1 => ?_
  obtain ⟨⟨kr, l0, c, rfl, hkr, hnr, hi0, ho0, hcap⟩, hs1⟩ := hx1q1
  obtain ⟨n, hn⟩ : ∃ n, n = l0.length := ⟨_, rfl⟩
  rw [← hn] at hcap ⊢
  have hxn : (ofE c0).length = n := by rw [← hi0, items_len, hn]
  have hn21 : 0 < n ∧ n ≤ 21 := by rw [← hxn, of_len]; omega
  have nl : ∀ H : AHeap, pLenH Tryd.prog H 25 (.slice (.own kr) 0 n c) = ⟨True, .int .i64 n⟩ := by
   have hLr : IsL w₀ h1q1 22 (.slice (.own kr) 0 l0.length c) (l0.map itC) := by
    have := IsL.own (w₀ := w₀) (xs := l0.map itC) hkr it_wide rfl (row_live ho0).1 c (capOk_of (by rw [List.length_map, ← hn]; exact hcap))
    rwa [List.length_map] at this
   rw [hn]
   exact it_len hLr
  have hs_h1q1 : Sub h h1q1 := Sub.trans (by repeat (first | exact Sub.refl _ | assumption | refine Sub.trans_set ?_ (by assumption))) hs1
  have hr_h1q1 := hs_h1q1
  refine aOps_alloc ze27 (cs := [.nilSlice, .int .i64 0]) (by rfl) fun k1q2 hk1q2 => ?_
  have hn_1q2 : h1q1 k1q2 = none := by first | assumption | (simp only [AHeap.set_none] at hk1q2; simp only [hk1q2])
  have hf_1q2 : h k1q2 = none := Sub.none hs_h1q1 hn_1q2
  refine aOps_store (by rfl) (by rfl) (by repeat (first | exact AHeap.set_same _ _ _ | assumption | refine (AHeap.set_ne _ _ (by first | assumption | exact Ne.symm (by assumption))).trans ?_)) sz27 (by rfl) (by rfl) (by first | exact Nat.le_refl _ | decide | (simp; done) | (simp; omega)) (Nat.zero_le _) (by first | rfl | (simp (decide := true) only [ev, putD, Slots.put, Slots.get, if_true, if_false, AVal.cells, allScal, Bool.and_true, Bool.true_and, sc_slice, sc_int, sc_str])) ?_
  simp only [AHeap.set_set, AVal.cells]
  simp (decide := true) only [aOps_nil, ev, putD, Slots.put, Slots.get, Slots.keep, if_true, if_false, setAt, List.set_cons_zero, List.set_cons_succ, Nat.zero_add]
  apply hK; clear hK K
  refine awp_seq ?_
  have ne_r : k1q2 ≠ kr := fun e => by rw [e, hkr] at hn_1q2; cases hn_1q2
  have hst : SfP h k1q2 kr (.slice (.own kr) 0 n c) (ofE c0) n ⟨0, h1q1.set k1q2 ⟨[.slice (.own kr) 0 n c, .int .i64 0], 0⟩, l0⟩ := by
   refine ⟨Nat.zero_le _, (by repeat (first | exact Sub.refl _ | assumption | refine Sub.set_both ?_ _ _ | refine Sub.trans_set ?_ (by repeat (first | assumption | refine (AHeap.set_ne _ _ (by first | assumption | exact Ne.symm (by assumption))).trans ?_)))), AHeap.set_same _ _ _, (AHeap.set_ne _ _ ne_r.symm).trans hkr, hn.symm, fun j hj => ?_⟩
   have hj' : j < l0.length := by omega
   have e1 : (l0.getD j default).1 = (ofE c0).getD j default := by rw [← hi0, items_getD]
   constructor
   · simp only
     rw [e1, if_neg (by omega)]
   · rw [List.getD, List.getElem?_eq_getElem hj']
     exact ho0 _ (List.getElem_mem hj')
  -- region 2  law.go:188
  refine awp_rseq [1, 2, 7, 8] (by rfl) fun K hK => ?_
  simp (decide := true) only [aOps_nil, ev, absV, absS, putD, Slots.put, Slots.keep, if_true, if_false, true_and, ↓ap_assign, pop_assign]
  apply hK; clear hK K
  refine awp_block ?_
  refine awp_loopG [1, 2, 7, 8] (fun g : SfG => [(1, .int .u8 a1.toNat), (2, .bool d), (7, .ptr (.own k1q2) 0), (8, .int .i64 g.i)]) (fun g : SfG => g.H) (fun g : SfG => SfP h k1q2 kr (.slice (.own kr) 0 n c) (ofE c0) n g ∧ (d = false → g.i = 0)) (fun g : SfG => n - g.i) ⟨0, _, l0⟩ (by rfl) (Sub.refl _) ⟨hst, fun _ => rfl⟩ ?_
  rintro ⟨i, H, l⟩ ⟨hok, hd0⟩
  obtain ⟨hi, hs_H, eb_1q2, eb_r, hln, hat⟩ := id hok
  simp only at hi hs_H eb_1q2 eb_r hln hat hd0 ⊢
  refine awp_seq ?_
  -- region 3  law.go:188
  refine awp_rseq [1, 2, 7, 8, 30] (by rfl) fun K hK => ?_
  simp (decide := true) only [aOps_nil, ev, absV, absS, putD, Slots.put, Slots.get, Slots.keep, if_true, if_false, true_and, ↓ap_move, pop_move, ↓ap_fieldAddr, pop_fieldAddr, fa27_0, ↓ap_loadL, apL_mk, pLoad_one ag25, ↓ap_len, pop_len, pLen_slice Tryd.underlying25, ↓ap_binOp, pop_binOp, isNilC_tmp, cond_false, pBinX_int, pI_lss, ↓ag_move, agP, agQ_some, nthDst, gKnown_bool, guardB_bool_true, implies_true, ↓ap_pick, pop_pick, pPick_bool, pickV_cond_l, pickV_and, rd_own w₀ eb_1q2, List.getD_cons_zero, Nat.zero_add, lv_slice]
  apply hK; clear hK K
  refine awp_cond (b := _) rfl (fun hb1 => ?_) (fun hb1 => ?_)
  · try simp only [decide_eq_true_eq, Bool.and_eq_true] at hb1
    have hi' : i < n := by omega
    have hotl : ∀ q ∈ l, q.2.val = .nilSlice := by
     intro q hq
     obtain ⟨j, hj, rfl⟩ := List.getElem_of_mem hq
     have := (hat j (by omega)).2
     rwa [List.getD, List.getElem?_eq_getElem hj] at this
    have hLr : IsL w₀ H 22 (.slice (.own kr) 0 l.length c) (l.map itC) := by
     have := IsL.own (w₀ := w₀) (xs := l.map itC) eb_r it_wide rfl (row_live hotl).1 c (capOk_of (by rw [List.length_map, hln]; exact hcap))
     rwa [List.length_map] at this
    have hrn := it_rd hLr (i := i) (by omega) (j := 0) (by decide)
    obtain ⟨⟨x, qo⟩, hx⟩ : ∃ a, l.getD i default = a := ⟨_, rfl⟩
    have hxi := (hat i hi').1
    rw [hx, if_neg (Nat.lt_irrefl _)] at hxi
    simp only at hxi
    have hrn' : (l.map itC).flatten.getD (i * 22 + 0) .dead = .str x.name := by
     rw [← rd_own w₀ eb_r, ← Nat.zero_add (i * 22), hrn, hx]; rfl
    obtain ⟨b, hb⟩ : ∃ b, b = 65 + UInt8.ofNat i := ⟨_, rfl⟩
    have hbn : b.toNat = 65 + i := by
     rw [hb, UInt8.toNat_add, UInt8.toNat_ofNat']
     show (65 + i % 256) % 256 = 65 + i
     omega
    have hw3 : IntKind.i64.wrap (65 + (i : Int)) = 65 + (i : Int) := wrap_i64 (by omega) (by omega)
    have hwu : IntKind.u8.wrap (65 + (i : Int)) = (b.toNat : Int) := by
     rw [wrap_u8 (by omega) (by omega), hbn]
     omega
    refine awp_skip ?_
    change Awp _ _ _ _ _ _ _
    refine awp_seq ?_
    refine awp_block ?_
    -- region 5  law.go:189
    refine awp_rseq [1, 2, 7, 8, 39] (by rfl) fun K hK => ?_
    simp (decide := true) only [aOps_nil, ev, absV, absS, putD, Slots.put, Slots.get, Slots.keep, if_true, if_false, true_and, ↓ap_fieldAddr, pop_fieldAddr, fa27_0, ↓ap_loadL, apL_mk, pLoad_one ag25, ↓ap_move, pop_move, ↓ap_indexAddrL, pIndexAddr_slice Tryd.underlying25 sz44, fa44_0, pLoad_one ag9, ↓ap_binOp, pop_binOp, isNilC_str, cond_false, pBinX_str, pS_neq, rd_own w₀ eb_1q2, rd_own w₀ eb_r, List.getD_cons_zero, Nat.zero_add, lv_str, lv_slice, Int.toNat_natCast, hrn']
    repeat (with_reducible refine And.intro ?_ ?_; · first | trivial | omega | (intro hg; simp only [Bool.and_eq_true, Bool.or_eq_true, Bool.not_eq_true', Bool.and_eq_false_iff, Bool.or_eq_false_iff, Bool.not_eq_false', decide_eq_true_eq, decide_eq_false_iff_not, eqNil] at hg; omega) )
    apply hK; clear hK K
    refine awp_cond (b := _) rfl (fun hb2 => ?_) (fun hb2 => ?_)
    · try simp only [decide_eq_false_iff_not, Bool.not_eq_true'] at hb2
      have hil : i < l.length := by omega
      have hd1 : d = true := by simpa using hb1.2
      -- region 6  law.go:190
      refine awp_r [1, 2, 7, 8] (by rfl) ?_
      simp (decide := true) only [ev, absV, absS, putD, Slots.put, Slots.get, if_true, if_false, true_and, ↓ap_fieldAddr, pop_fieldAddr, fa27_0, ↓ap_loadL, apL_mk, pLoad_one ag25, ↓ap_move, pop_move, ↓ap_binOp, pop_binOp, isNilC_tmp, cond_false, pBinX_int, pI_add, ↓ap_convert _ _ _ (es_int Tryd.underlying3 Tryd.underlying5), pop_convert, pConv_int Tryd.underlying3 Tryd.underlying5, rd_own w₀ eb_1q2, List.getD_cons_zero, Nat.zero_add, lv_slice, hw3, hwu]
      refine aOps_buildSlice (cs := byteCells [b]) (by kernel_rfl) fun k6q6 hk6q6 => ?_
      have hn_6q6 : H k6q6 = none := by first | assumption | (simp only [AHeap.set_none] at hk6q6; simp only [hk6q6])
      have hf_6q6 : h k6q6 = none := Sub.none hs_H hn_6q6
      have ne_6q6_1q2 : k6q6 ≠ k1q2 := AHeap.ne_some hn_6q6 eb_1q2
      have ne_6q6_r : k6q6 ≠ kr := AHeap.ne_some hn_6q6 eb_r
      simp (decide := true) only [ev, absV, absS, putD, Slots.put, Slots.get, if_true, if_false, true_and, ↓ap_convert _ _ _ (es_str Tryd.underlying47 Tryd.underlying9), pop_convert, ↓ap_binOp, pop_binOp, isNilC_tmp, cond_false, pBinX_str, pS_add, Nat.zero_add, Nat.reduceAdd, conv_one, List.length_cons, List.length_nil]
      try simp (decide := true) only [ev, putD, Slots.put, Slots.get, if_true, if_false, true_and, ↓ap_indexAddrL, apL_mk, pIndexAddr_slice Tryd.underlying25 sz44, ↓ap_fieldAddr, pop_fieldAddr, fa44_0, Nat.zero_add, Int.toNat_natCast]
      repeat (with_reducible refine And.intro ?_ ?_; · first | trivial | omega | (intro hg; simp only [Bool.and_eq_true, Bool.or_eq_true, Bool.not_eq_true', Bool.and_eq_false_iff, Bool.or_eq_false_iff, Bool.not_eq_false', decide_eq_true_eq, decide_eq_false_iff_not, eqNil] at hg; omega) )
      refine aOps_storeName (l := l) (i := i) (nm := [78, b]) (by rfl) (by rfl) (by repeat (first | exact AHeap.set_same _ _ _ | assumption | refine (AHeap.set_ne _ _ (by first | assumption | exact Ne.symm (by assumption))).trans ?_)) hil sz9 ?_
      have hdone : SfP h k1q2 kr (.slice (.own kr) 0 n c) (ofE c0) n ⟨i + 1, (H.set k6q6 ⟨byteCells [b], 0⟩).set kr ⟨((l.set i (nmO [78, b] (l.getD i default))).map itC).flatten, 0⟩, l.set i (nmO [78, b] (l.getD i default))⟩ := by
       refine sfp_step hok hi' (Sub.set_off (Sub.set_off hs_H hf_6q6 _) hnr _) ((AHeap.set_ne _ _ ne_r).trans (AHeap.set_ne _ _ ne_6q6_1q2.symm)) (AHeap.set_same _ _ _) (by rw [List.length_set]; exact hln) ⟨?_, ?_⟩ fun j hj => getD_set_other _ hj
       · rw [getD_set_self _ hil, hx, ren_get true (by omega), ← hxi, if_pos (by simp [filler, hb2]), hb]
         rfl
       · rw [getD_set_self _ hil]
         exact (hat i hi').2
      simp (decide := true) only [aOps_nil, putD, Slots.keep, if_true, if_false]
      change Awp _ _ _ _ _ _ _
      -- region 4  law.go:188
      refine awp_r [1, 2, 7, 8] (by rfl) ?_
      simp (decide := true) only [aOps_nil, ev, absV, absS, putD, Slots.put, Slots.get, Slots.keep, if_true, if_false, true_and, ↓ap_move, pop_move, ↓ap_binOp, pop_binOp, isNilC_int, cond_false, pBinX_int, pI_add, ↓ap_assign, pop_assign]
      try simp (disch := omega) only [wrap_i64]
      try simp only [thenA_normal]
      exact ⟨⟨i + 1, _, _⟩, rfl, Sub.refl _, ⟨hdone, fun e => absurd (hd1.symm.trans e) (by decide)⟩, by simp only; omega⟩
    · try simp only [decide_eq_true_eq, Bool.not_eq_false'] at hb2
      have hd1 : d = true := by simpa using hb1.2
      have hdone : SfP h k1q2 kr (.slice (.own kr) 0 n c) (ofE c0) n ⟨i + 1, H, l⟩ := by
       refine sfp_step hok hi' hs_H rfl eb_r hln ⟨?_, (hat i hi').2⟩ fun _ _ => rfl
       rw [hx, hxi, ren_get true (by omega), ← hxi, if_neg (by simp [filler, hb2])]
      refine awp_skip ?_
      change Awp _ _ _ _ _ _ _
      -- region 4  law.go:188
      refine awp_r [1, 2, 7, 8] (by rfl) ?_
      simp (decide := true) only [aOps_nil, ev, absV, absS, putD, Slots.put, Slots.get, Slots.keep, if_true, if_false, true_and, ↓ap_move, pop_move, ↓ap_binOp, pop_binOp, isNilC_int, cond_false, pBinX_int, pI_add, ↓ap_assign, pop_assign]
      try simp (disch := omega) only [wrap_i64]
      try simp only [thenA_normal]
      exact ⟨⟨i + 1, _, _⟩, rfl, Sub.refl _, ⟨hdone, fun e => absurd (hd1.symm.trans e) (by decide)⟩, by simp only; omega⟩
  · try simp only [decide_eq_false_iff_not, Bool.and_eq_false_iff] at hb1
    refine awp_exit ?_
    change Awp _ _ _ _ _ _ _
    obtain ⟨hitems, hoth'⟩ := sfp_done (d := d) hok hxn (by
     cases d
     · exact .inr ⟨rfl, hd0 rfl⟩
     · left
       refine ⟨rfl, ?_⟩
       simp only
       simp at hb1
       omega)
    simp only at hitems hoth'
    refine Awp.keep [1, 2, 7] ?_
    refine l_Self7 w₀ ht10 h H k1q2 (.slice (.own kr) 0 n c) l c0 d a1 hitems (fun g => ⟨?_, by omega, ?_⟩) rfl hs_H eb_1q2
    · have := IsL.own (w₀ := w₀) (xs := l.map itC) eb_r it_wide rfl (row_live hoth').1 c (capOk_of (by rw [List.length_map, hln]; exact hcap))
      rwa [List.length_map, hln] at this
    · rw [hitems]
      exact keys_small (ren_names (of_names c0)) (by rw [ren_len]; omega) g
end Go.Proofs.YtgnebodlkfblcaaDoor

/-
  The arguments of the statements, opened: booleans, texts, integers, pairs of bytes; the wrap that hands on the world's shape.
  Conditions: none.
-/
namespace Go.Proofs.YtgnebodlkfblcaaDoor
open Go.AM
open Go.ChangeShapes Go.WideShapes Go.ChangeAt Go.RowKit
set_option maxRecDepth 100000

section
variable {H : Type} {enc : TypeId × Value → H} {W : World} {base : Nat} {v : Value} {x : DataW H × List MemPlace}
theorem u8_of {n : Int} (h : (Lit.int .u8 n).wf = true) : ∃ b : UInt8, (b.toNat : Int) = n := by
  have := wf_u8 h
  exact ⟨UInt8.ofNat n.toNat, by rw [UInt8.toNat_ofNat']; omega⟩

theorem arg_u8 {t : TypeId} (ht : Tryd.prog.underlying t = some (.int .u8)) (h : ∃ fuel, DataW.trod enc Tryd.prog W 0 (fun _ => true) true fuel t v.cells.toList = some x) (hv : Value.okWide Tryd.prog W .any base t v) :
    ∃ b : UInt8, VR (fun _ => none) (.int .u8 b.toNat) v := by
  obtain ⟨fuel, hf⟩ := h
  obtain ⟨n, hcs, _, hw⟩ := DataW.trod_int ht hf
  obtain ⟨b, hb⟩ := u8_of hw
  obtain ⟨m, rfl⟩ := okWide_int ht hv
  refine ⟨b, ?_⟩
  simp [Value.cells] at hcs
  simp only [VR, hb, hcs]

theorem arg_bool {t : TypeId} (ht : Tryd.prog.underlying t = some .bool) (hv : Value.okWide Tryd.prog W .any base t v) : ∃ b : Bool, VR (fun _ => none) (.bool b) v := by
  obtain ⟨b, rfl⟩ := okWide_bool ht hv
  exact ⟨b, by simp only [VR]⟩
end

end Go.Proofs.YtgnebodlkfblcaaDoor

/-
  The arguments of the statements, opened: a slice whose elements are of one kind, given what an element is.
  Conditions: none. Nothing here is about a particular program.
-/
namespace Go.AM
open Go.ChangeShapes Go.WideShapes Go.ChangeAt Go.RowKit

section
variable {P : Program} {H : Type} {enc : TypeId × Value → H} {W : World} {α : Type}

/-- What an element of type e is: es cells, those of an x; and what is known of x. -/
structure RowOf (P : Program) (enc : TypeId × Value → H) (W : World) (e : TypeId) (es : Nat) (el : α → List Value) (inv : α → Prop) : Prop where
  size : P.cellsOf e = es
  pos : 0 < es
  len : ∀ x, (el x).length = es
  live : ∀ x, inv x → allLive ((el x).map absS) = true
  cell : ∀ (n : Nat) (cs : List Value) (y : DataW H × List MemPlace), DataW.trod enc P W 0 (fun _ => true) true n e cs = some y → ∃ x, cs = el x ∧ inv x

theorem rows_list {el : α → List Value} {inv : α → Prop} {es : Nat} {a : Addr} : ∀ (len : Nat), (∀ i, i < len → ∃ x : α, inv x ∧ ∀ j, j < es → W.cell? (a.add (i * es + j)) = (el x)[j]?) →
    ∃ l : List α, l.length = len ∧ (∀ x ∈ l, inv x) ∧ ∀ i (hi : i < l.length), ∀ j, j < es → W.cell? (a.add (i * es + j)) = (el l[i])[j]?
  | 0, _ => ⟨[], rfl, by simp, fun i hi => by simp at hi⟩
  | n + 1, h => by
    obtain ⟨l, h1, h2, h3⟩ := rows_list n fun i hi => h i (by omega)
    obtain ⟨x, hx, hc⟩ := h n (by omega)
    refine ⟨l ++ [x], by simp [h1], ?_, fun i hi j hj => ?_⟩
    · intro y hy
      rcases List.mem_append.1 hy with hy | hy
      · exact h2 y hy
      · rw [List.mem_singleton.1 hy]; exact hx
    · by_cases hin : i < l.length
      · rw [List.getElem_append_left hin]
        exact h3 i hin j hj
      · have e : i = n := by simp at hi; omega
        subst e
        have : (l ++ [x])[i] = x := by rw [List.getElem_append_right (by omega)]; simp
        rw [this]
        exact hc j hj

theorem isL_rows {el : α → List Value} {inv : α → Prop} {es : Nat} (hes : 0 < es) (hlen : ∀ x, (el x).length = es) (hlive : ∀ x, inv x → allLive ((el x).map absS) = true) {b o cap : Nat} {l : List α} (hi : ∀ x ∈ l, inv x) (hcap : l.length ≤ cap)
    (hc : ∀ i (hi : i < l.length), ∀ j, j < es → W.cell? ((⟨b, o, none⟩ : Addr).add (i * es + j)) = (el l[i])[j]?) :
    IsL W (fun _ => none) es (.slice (.base b) o l.length (.exact cap)) (l.map fun x => (el x).map absS) := by
  have hw : ∀ x ∈ l.map (fun x => (el x).map absS), x.length = es := by
    intro x hx
    obtain ⟨y, _, rfl⟩ := List.mem_map.1 hx
    rw [List.length_map, hlen]
  refine .mk _ _ _ _ _ (by rw [List.length_map]) hw ?_ (allLive_flatten.2 fun x hx => by obtain ⟨y, hy, rfl⟩ := List.mem_map.1 hx; exact hlive y (hi y hy)) hcap
  apply List.ext_getElem?
  intro q
  by_cases hq : q < l.length * es
  · rw [cellsAt_get _ _ _ _ _ _ hq]
    have hm : q % es < es := Nat.mod_lt _ hes
    have hd : q / es < l.length := Nat.div_lt_of_lt_mul (by rw [Nat.mul_comm]; exact hq)
    have hqe : q = q / es * es + q % es := by rw [Nat.mul_comm]; exact (Nat.div_add_mod q es).symm
    have hcell := hc (q / es) hd (q % es) hm
    rw [← hqe] at hcell
    have ea : (⟨b, o, none⟩ : Addr).add q = ⟨b, o + q, none⟩ := by by_cases e : q = 0 <;> simp [Addr.add, e]
    rw [ea, List.getElem?_eq_getElem (by rw [hlen]; exact hm)] at hcell
    have h2 := flatten_get hw (i := q / es) (j := q % es) (by rw [List.length_map]; exact hd) hm
    rw [← hqe] at h2
    rw [h2, List.getD_eq_getElem?_getD, List.getElem?_map, List.getElem?_eq_getElem hd, Option.map_some, Option.getD_some, List.getElem?_map, List.getElem?_eq_getElem (by rw [hlen]; exact hm), Option.map_some]
    have hlt : b < W.heap.size := cell_lt hcell
    simp only [AM.rd, hlt, if_true, hcell]
  · rw [List.getElem?_eq_none (by rw [cellsAt_length]; omega), List.getElem?_eq_none (by rw [flatten_len hw, List.length_map]; omega)]

theorem trod_rows {e t : TypeId} {es : Nat} {el : α → List Value} {inv : α → Prop} (R : RowOf P enc W e es el inv) (ht : P.underlying t = some (.slice e)) {n : Nat} {cs : List Value} {y : DataW H × List MemPlace} (h : DataW.trod enc P W 0 (fun _ => true) true n t cs = some y) :
    ∃ (v : Value) (l : List α), cs = [v] ∧ IsL W (fun _ => none) es (absS v) (l.map fun x => (el x).map absS) ∧ l.length ≤ 9223372036854775807 ∧ ∀ x ∈ l, inv x := by
  rcases DataW.trod_slice ht h with ⟨hcs, _⟩ | ⟨a, len, cap, elems, rest, n', _, hcs, _, _, hlc, hcm, hel, hcell, hspare, _⟩
  · exact ⟨_, [], hcs, .nil, by simp, by simp⟩
  · have hlen : len ≤ 9223372036854775807 := Nat.le_trans hlc hcm
    have one : ∀ (m i : Nat) (q : Option (DataW H × List MemPlace)), (W.cells? 0 (a.add (i * P.cellsOf e)) (P.cellsOf e)).bind (DataW.trod enc P W 0 (fun _ => true) true m e) = q → q.isSome = true → ∃ x : α, inv x ∧ ∀ j, j < es → W.cell? (a.add (i * es + j)) = (el x)[j]? := by
      intro m i q hq hs
      cases q with
      | none => cases hs
      | some z =>
        rw [Option.bind_eq_some_iff] at hq
        obtain ⟨cs', hcs', hy⟩ := hq
        obtain ⟨x, rfl, hx⟩ := R.cell _ _ _ hy
        rw [R.size] at hcs'
        refine ⟨x, hx, fun j hj => ?_⟩
        have := (World.cells?_some hcs').2.2 j hj
        rw [← this]
        congr 1
        obtain ⟨ab, ao, asp⟩ := a
        by_cases e1 : i * es = 0 <;> by_cases e2 : j = 0 <;> simp [Addr.add, e1, e2, Nat.add_assoc]
    obtain ⟨l, l1, l2, l3⟩ := rows_list (W := W) (el := el) (inv := inv) (es := es) (a := a) len fun i hi => one n' i _ (hcell i hi) (by rw [List.getElem?_eq_getElem (by omega)]; rfl)
    have spot : ∀ (x : α), (∀ j, j < es → W.cell? (a.add (0 * es + j)) = (el x)[j]?) → a.spot = none := by
      intro x hx
      have h0 := hx 0 R.pos
      rw [List.getElem?_eq_getElem (by rw [R.len]; exact R.pos)] at h0
      have := World.cell?_spot h0
      rwa [Addr.add, if_pos (by rw [Nat.zero_mul])] at this
    refine ⟨.slice (some a) len cap, l, hcs, ?_, by omega, l2⟩
    subst l1
    obtain ⟨ab, ao, asp⟩ := a
    by_cases hc0 : cap = 0
    · have hl0 : l = [] := List.eq_nil_of_length_eq_zero (by omega)
      subst hl0
      subst hc0
      cases asp with
      | none => exact isL_rows (l := ([] : List α)) (inv := inv) R.pos R.len R.live (fun x hx => by cases hx) (Nat.le_refl _) fun i hi => absurd hi (Nat.not_lt_zero i)
      | some s => exact isL_rows (l := ([] : List α)) (inv := inv) R.pos R.len R.live (fun x hx => by cases hx) (Nat.le_refl _) fun i hi => absurd hi (Nat.not_lt_zero i)
    · have hs : asp = none := by
        by_cases hl0 : l.length = 0
        · obtain ⟨r1, r2⟩ := hspare rfl
          obtain ⟨x, _, hx⟩ := one n' l.length _ (r2 0 (by omega)) (by rw [List.getElem?_eq_getElem (by omega)]; rfl)
          rw [hl0] at hx
          exact spot x hx
        · exact spot _ (l3 0 (by omega))
      subst hs
      exact isL_rows (inv := inv) R.pos R.len R.live l2 hlc l3
end
end Go.AM

/-
  The arguments of the statements about pairs, opened: entries; the listed table.
  Conditions: none.
-/
namespace Go.Proofs.YtgnebodlkfblcaaDoor
open Go.AM
open Go.Prs
open Go.ChangeShapes Go.WideShapes Go.ChangeAt Go.RowKit
set_option maxRecDepth 100000
/-- The listed table of powers of ten. -/
theorem tab_of {W : World} {rest : List (String × DataW Unit)} (h : laidMet Tryd.prog (("internal/strconv.uint64pow10", Rows.laid_internal_strconv_uint64pow10) :: rest) W) : Tab10 W :=
  Lib.tabIs_of_head (g := 0) (by kernel_rfl) (by kernel_rfl) (show Tryd.prog.underlying 122 = _ from Tryd.underlying122) Tryd.underlying103 (by kernel_rfl) (by kernel_rfl) h

section
variable {H : Type} {enc : TypeId × Value → H} {W : World} {base : Nat} {v : Value} {x : DataW H × List MemPlace}
def entV (e : EntryP) : List Value := [.int .u8 e.level, .int .u8 e.name, .int .u8 e.kind, .int .u8 e.flag]
theorem entV_abs (l : List EntryP) : (l.map fun e => (entV e).map absS) = l.map entC := rfl
theorem u8_nat {n : Int} (h : (Lit.int .u8 n).wf = true) : ∃ b : Nat, b < 256 ∧ n = b := by
  obtain ⟨a0, a1⟩ := wf_u8 h
  exact ⟨n.toNat, by omega, by omega⟩
theorem ent_row : RowOf Tryd.prog enc W 58 4 entV EntOk := by
  refine ⟨by kernel_rfl, by decide, fun _ => rfl, fun _ _ => rfl, fun n cs y h => ?_⟩
  obtain ⟨y0, y1, y2, y3, n', _, hl, h0, h1, h2, h3⟩ := Go.Joins.trod_struct4 Tryd.underlying58 h
  rw [show Tryd.prog.cellsOf 58 = 4 by kernel_rfl] at hl
  match cs, hl with
  | [c0, c1, c2, c3], _ =>
    simp only [show Tryd.prog.cellsOf 5 = 1 by kernel_rfl, List.drop_zero, List.drop_succ_cons, List.take_succ_cons, List.take_zero] at h0 h1 h2 h3
    obtain ⟨a, e0, _, w0⟩ := DataW.trod_int Tryd.underlying5 h0
    obtain ⟨b, e1, _, w1⟩ := DataW.trod_int Tryd.underlying5 h1
    obtain ⟨c, e2, _, w2⟩ := DataW.trod_int Tryd.underlying5 h2
    obtain ⟨d, e3, _, w3⟩ := DataW.trod_int Tryd.underlying5 h3
    simp only [List.cons.injEq, and_true] at e0 e1 e2 e3
    subst e0 e1 e2 e3
    obtain ⟨a', k0, rfl⟩ := u8_nat w0
    obtain ⟨b', k1, rfl⟩ := u8_nat w1
    obtain ⟨c', k2, rfl⟩ := u8_nat w2
    obtain ⟨d', k3, rfl⟩ := u8_nat w3
    exact ⟨⟨a', b', c', d'⟩, rfl, k0, k1, k2, k3⟩
theorem arg_T (h : ∃ fuel, DataW.trod enc Tryd.prog W 0 (fun _ => true) true fuel 23 v.cells.toList = some x) (hv : Value.okWide Tryd.prog W .any base 23 v) :
    ∃ (l : List EntryP) (y : AVal), VR (fun _ => none) y v ∧ IsL W (fun _ => none) 4 y (l.map entC) ∧ l.length ≤ 9223372036854775807 ∧ ∀ t ∈ l, EntOk t := by
  obtain ⟨fuel, h2⟩ := h
  obtain ⟨a0, len0, cap0, rfl⟩ := okWide_slice Tryd.underlying23 hv
  have h2' : DataW.trod enc Tryd.prog W 0 (fun _ => true) true fuel 23 [.slice a0 len0 cap0] = some x := h2
  obtain ⟨v', l, hcs, hL, hl, hi⟩ := trod_rows ent_row Tryd.underlying23 h2'
  simp only [List.cons.injEq, and_true] at hcs
  subst hcs
  rw [entV_abs] at hL
  refine ⟨l, _, ?_, hL, hl, hi⟩
  exact VR_absS _ _
end
end Go.Proofs.YtgnebodlkfblcaaDoor

