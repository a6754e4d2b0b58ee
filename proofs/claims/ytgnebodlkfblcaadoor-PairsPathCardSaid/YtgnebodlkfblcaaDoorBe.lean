/-
  Texts of this proof, joined: PsA, LwR, LwX, LwZ, PsB, PsC.
  Conditions: none.
-/
import Derived.Test.YtgnebodlkfblcaaDoorBd
import Derived.Test.YtgnebodlkfblcaaDoorProg
import Derived.Test.YtgnebodlkfblcaaDoorBb
import Derived.WalkKit
import Derived.ProofKit
import Derived.OpenShut
import Derived.ShutString
import Derived.ChangeOld
import Derived.Below
import Derived.Deep.Strs
import Derived.Handed
import Derived.HandedShaped
import Derived.Shelf.Vars
import Derived.Test.YtgnebodlkfblcaaDoorRows
import Derived.Lib.LaidTab
import Derived.Lib.SmallJoins
import Derived.MakeChecks
set_option linter.unusedSimpArgs false
set_option linter.unnecessarySimpa false
set_option linter.unusedVariables false
/-
  The law PairsAll.
  Conditions: none.
-/
namespace Go.Proofs.YtgnebodlkfblcaaDoor
open Go.AM
open Go.Proofs
open Go.Col
open Go.Prs
set_option maxRecDepth 100000

set_option maxHeartbeats 4000000 in
theorem l_PairsAll (w₀ : World) (ht10 : Tab10 w₀) (h : AHeap) (v0 : AVal) (c0 : List EntryP) (hm0 : IsL w₀ h 4 v0 (c0.map entC)) (hl0 : c0.length ≤ 9223372036854775807) (hk0 : ∀ e ∈ c0, EntOk e) (v1 : AVal) (c1 : List EntryP) (hm1 : IsL w₀ h 4 v1 (c1.map entC)) (hl1 : c1.length ≤ 9223372036854775807) (hk1 : ∀ e ∈ c1, EntOk e) (a2 b2 : UInt8) :
    ACall Tryd.prog w₀ 3 [v0, v1, .agg [.int .u8 a2.toNat, .int .u8 b2.toNat]] h (fun x _ => x = .bool true) := by
  refine ACall.mono (R := fun x h' => x = .bool true ∧ h' = h) ?_ fun x h' hx => hx.1
  have hlv0 := hm0.live
  have hlv1 := hm1.live
  have ha2 : a2.toNat < 256 := a2.toNat_lt
  have hb2 : b2.toNat < 256 := b2.toNat_lt
  refine acall_intro (n := 151) (rs := [.tmp 6]) Tryd.func3 rfl rfl rfl rfl (Nat.le_of_ble_eq_true rfl) ?_
  simp only [initSlots]
  -- region 0  law.go:132
  refine awp_rseq [0, 1, 5] (by rfl) fun K hK => ?_
  refine aOps_box (by rfl) (by rfl) (by rfl) fun k0q0 hk0q0 => ?_
  try have hf_0q0 : h k0q0 = none := by first | assumption | (simp only [AHeap.set_none] at hk0q0; simp only [hk0q0])
  skip
  simp (decide := true) only [aOps_nil, ev, absV, absS, putD, Slots.put, Slots.get, Slots.keep, if_true, if_false, true_and, ↓ap_assign, pop_assign, AVal.cells, Nat.zero_add, Nat.reduceAdd]
  apply hK; clear hK K
  -- region 1  law.go:133
  refine awp_rseq [1, 5, 7] (by rfl) fun K hK => ?_
  simp (decide := true) only [ev, putD, Slots.put, Slots.get, if_true, if_false, true_and, ↓ap_move, pop_move]
  refine aOps_call (by rfl) (by rfl) (c_Of w₀ _ v0 c0 (hm0.mono (by repeat (first | exact Sub.refl _ | assumption | refine Sub.set_both ?_ _ _ | refine Sub.trans_set ?_ (by repeat (first | assumption | refine (AHeap.set_ne _ _ (by first | assumption | exact Ne.symm (by assumption))).trans ?_))))) hk0 hl0) fun x1q1 h1q1 hx1q1 => ?_
  obtain ⟨sa, la, rfl, hia, hga, hsc, hs1⟩ := of_rec (w₀ := w₀) hx1q1
  have hlsa := (hga 0).row.live
  have hlla : la.length ≤ 21 := by rw [← items_len, hia, of_len]; omega
  have hs_h1q1 : Sub h h1q1 := Sub.trans (by repeat (first | exact Sub.refl _ | assumption | refine Sub.trans_set ?_ (by assumption))) hs1
  have hr_h1q1 := hs_h1q1
  have eb_0q0 := hs1 k0q0 _ (by repeat (first | exact AHeap.set_same _ _ _ | assumption | refine (AHeap.set_ne _ _ (by first | assumption | exact Ne.symm (by assumption))).trans ?_))
  refine aOps_alloc ze27 (cs := [.nilSlice, .int .i64 0]) (by rfl) fun k1q2 hk1q2 => ?_
  have hn_1q2 : h1q1 k1q2 = none := by first | assumption | (simp only [AHeap.set_none] at hk1q2; simp only [hk1q2])
  have hf_1q2 : h k1q2 = none := Sub.none hs_h1q1 hn_1q2
  have ne_1q2_0q0 : k1q2 ≠ k0q0 := AHeap.ne_some hn_1q2 eb_0q0
  refine aOps_store (by rfl) (by rfl) (by repeat (first | exact AHeap.set_same _ _ _ | assumption | refine (AHeap.set_ne _ _ (by first | assumption | exact Ne.symm (by assumption))).trans ?_)) sz27 (by rfl) (by rfl) (by first | exact Nat.le_refl _ | decide | (simp; done) | (simp; omega)) (Nat.zero_le _) (by first | rfl | (simp (decide := true) only [ev, putD, Slots.put, Slots.get, if_true, if_false, AVal.cells, allScal, Bool.and_true, hsc, sc_int])) ?_
  simp only [AHeap.set_set, AVal.cells]
  simp (decide := true) only [aOps_nil, ev, putD, Slots.put, Slots.get, Slots.keep, if_true, if_false, setAt, List.set_cons_zero, List.set_cons_succ, Nat.zero_add]
  apply hK; clear hK K
  -- region 2  law.go:134
  refine awp_rseq [5, 7, 8] (by rfl) fun K hK => ?_
  simp (decide := true) only [ev, putD, Slots.put, Slots.get, if_true, if_false, true_and, ↓ap_move, pop_move]
  refine aOps_call (by rfl) (by rfl) (c_Of w₀ _ v1 c1 (hm1.mono (by repeat (first | exact Sub.refl _ | assumption | refine Sub.set_both ?_ _ _ | refine Sub.trans_set ?_ (by repeat (first | assumption | refine (AHeap.set_ne _ _ (by first | assumption | exact Ne.symm (by assumption))).trans ?_))))) hk1 hl1) fun x2q1 h2q1 hx2q1 => ?_
  obtain ⟨sb, lb, rfl, hib, hgb, hsc, hs2⟩ := of_rec (w₀ := w₀) hx2q1
  have hlsb := (hgb 0).row.live
  have hllb : lb.length ≤ 21 := by rw [← items_len, hib, of_len]; omega
  have hs_h2q1 : Sub h h2q1 := Sub.trans (by repeat (first | exact Sub.refl _ | assumption | refine Sub.trans_set ?_ (by assumption))) hs2
  have hr_h2q1 : Sub h1q1 h2q1 := Sub.trans (by repeat (first | exact Sub.refl _ | assumption | refine Sub.trans_set ?_ (by assumption))) hs2
  have eb_1q2 := hs2 k1q2 _ (by repeat (first | exact AHeap.set_same _ _ _ | assumption | refine (AHeap.set_ne _ _ (by first | assumption | exact Ne.symm (by assumption))).trans ?_))
  have eb_0q0 := hs2 k0q0 _ (by repeat (first | exact AHeap.set_same _ _ _ | assumption | refine (AHeap.set_ne _ _ (by first | assumption | exact Ne.symm (by assumption))).trans ?_))
  refine aOps_alloc ze27 (cs := [.nilSlice, .int .i64 0]) (by rfl) fun k2q2 hk2q2 => ?_
  have hn_2q2 : h2q1 k2q2 = none := by first | assumption | (simp only [AHeap.set_none] at hk2q2; simp only [hk2q2])
  have hf_2q2 : h k2q2 = none := Sub.none hs_h2q1 hn_2q2
  have ne_2q2_0q0 : k2q2 ≠ k0q0 := AHeap.ne_some hn_2q2 eb_0q0
  have ne_2q2_1q2 : k2q2 ≠ k1q2 := AHeap.ne_some hn_2q2 eb_1q2
  refine aOps_store (by rfl) (by rfl) (by repeat (first | exact AHeap.set_same _ _ _ | assumption | refine (AHeap.set_ne _ _ (by first | assumption | exact Ne.symm (by assumption))).trans ?_)) sz27 (by rfl) (by rfl) (by first | exact Nat.le_refl _ | decide | (simp; done) | (simp; omega)) (Nat.zero_le _) (by first | rfl | (simp (decide := true) only [ev, putD, Slots.put, Slots.get, if_true, if_false, AVal.cells, allScal, Bool.and_true, hsc, sc_int])) ?_
  simp only [AHeap.set_set, AVal.cells]
  simp (decide := true) only [aOps_nil, ev, putD, Slots.put, Slots.get, Slots.keep, if_true, if_false, setAt, List.set_cons_zero, List.set_cons_succ, Nat.zero_add]
  apply hK; clear hK K
  have ra : ∀ g, GrpOk w₀ h2q1 sa g la := fun g => (hga g).mono hr_h2q1
  have hina := items_len la
  have hinb := items_len lb
  have hla0 : 0 < la.length := by rw [← hina, hia, of_len]; omega
  have hlb0 : 0 < lb.length := by rw [← hinb, hib, of_len]; omega
  obtain ⟨ga, hga'⟩ : ∃ g, g = groupE (items la) a2.toNat := ⟨_, rfl⟩
  obtain ⟨gb, hgb'⟩ : ∃ g, g = groupE (items lb) b2.toNat := ⟨_, rfl⟩
  have hca : checkE (items la) (ga : Int) = 0 := by rw [hga', hia]; exact (of_check c0 _).1
  have hcb : checkE (items lb) (gb : Int) = 0 := by rw [hgb', hib]; exact (of_check c1 _).1
  have hGa : Prs.Good (items la) := by rw [hia]; exact of_good c0
  have hGb : Prs.Good (items lb) := by rw [hib]; exact of_good c1
  obtain ⟨P, hP⟩ : ∃ P, P = pairsE (pathsE (items la) ga true) (pathsE (items lb) gb true) (isP (items la) (items lb)) := ⟨_, rfl⟩
  obtain ⟨q, hq⟩ : ∃ q : Int × Int → Bool, q = fun z => isN (items la) (items lb) z.1 z.2 := ⟨_, rfl⟩
  have hPl : P.length ≤ 441 := by
   have h1 := pr_few (items la) (items lb) ga gb (isP (items la) (items lb))
   have h2 : (items la).length * (items lb).length ≤ 21 * 21 := Nat.mul_le_mul (by omega) (by omega)
   rw [hP]; omega
  have eP : amongR (items la) (items lb) ga gb (isP (items la) (items lb)) = (P, 0) := by
   unfold amongR
   rw [if_neg (by rw [hca]; simp), if_neg (by rw [hcb]; simp), hP]
  have eN : amongR (items la) (items lb) ga gb (isN (items la) (items lb)) = (P.filter q, 0) := by
   unfold amongR
   rw [if_neg (by rw [hca]; simp), if_neg (by rw [hcb]; simp), nums_filter, hP, hq]
  have eL := pairing_law hca hcb (isP (items la) (items lb))
  rw [← hP] at eL
  -- region 3  law.go:135
  refine awp_rseq [5, 7, 8, 9] (by rfl) fun K hK => ?_
  simp (decide := true) only [ev, absV, absS, putD, Slots.put, Slots.get, if_true, if_false, true_and, ↓ap_fieldAddr, pop_fieldAddr, fa27_0, ↓ap_loadL, apL_mk, pLoad_one ag25, ↓ap_indexAddrL, pIndexAddr_ptr Tryd.underlying24 sz5, pLoad_one ag5, rd_ne', ne_eq, not_false_eq_true, ne_2q2_0q0.symm, ne_2q2_1q2.symm, rd_own w₀ eb_0q0, rd_own w₀ eb_1q2, List.getD_cons_zero, Nat.zero_add, lv_int, hlsa, Int.toNat_zero, Nat.zero_mul]
  refine aOps_callV (V := .int .i64 ga) (by rfl) (by rfl) (by rw [hga']; exact c_group w₀ _ sa a2.toNat la ((ra 0).row.mono (by repeat (first | exact Sub.refl _ | assumption | refine Sub.set_both ?_ _ _ | refine Sub.trans_set ?_ (by repeat (first | assumption | refine (AHeap.set_ne _ _ (by first | assumption | exact Ne.symm (by assumption))).trans ?_))))) ha2 hla0 (by rw [hia]; exact of_top c0) (by omega)) ?_
  simp (decide := true) only [aOps_nil, ev, putD, Slots.put, Slots.get, Slots.keep, if_true, if_false, true_and, ↓ap_assign, pop_assign]
  apply hK; clear hK K
  -- region 4  law.go:136
  refine awp_rseq [7, 8, 9, 10] (by rfl) fun K hK => ?_
  simp (decide := true) only [ev, absV, absS, putD, Slots.put, Slots.get, if_true, if_false, true_and, ↓ap_fieldAddr, pop_fieldAddr, fa27_0, ↓ap_loadL, apL_mk, pLoad_one ag25, ↓ap_indexAddrL, pIndexAddr_ptr Tryd.underlying24 sz5, pLoad_one ag5, rd_ne', ne_eq, not_false_eq_true, ne_2q2_0q0.symm, rd_own w₀ eb_0q0, rd_any, List.getD_cons_zero, List.getD_cons_succ, Nat.zero_add, lv_int, hlsb, Int.toNat_one, Nat.one_mul]
  refine aOps_callV (V := .int .i64 gb) (by rfl) (by rfl) (by rw [hgb']; exact c_group w₀ _ sb b2.toNat lb ((hgb 0).row.mono (by repeat (first | exact Sub.refl _ | assumption | refine Sub.set_both ?_ _ _ | refine Sub.trans_set ?_ (by repeat (first | assumption | refine (AHeap.set_ne _ _ (by first | assumption | exact Ne.symm (by assumption))).trans ?_))))) hb2 hlb0 (by rw [hib]; exact of_top c1) (by omega)) ?_
  simp (decide := true) only [aOps_nil, ev, putD, Slots.put, Slots.get, Slots.keep, if_true, if_false, true_and, ↓ap_assign, pop_assign]
  apply hK; clear hK K
  -- region 5  law.go:137
  refine awp_rseq [7, 8, 9, 10, 11, 12] (by rfl) fun K hK => ?_
  simp (decide := true) only [ev, absV, absS, putD, Slots.put, Slots.get, if_true, if_false, true_and, ↓ap_loadL, apL_mk, pLoad_agg ag27 sz27, ↓ap_move, pop_move, ↓ap_build, ↓pop_buildL, bld35_0_1, evP, List.map_cons, List.map_nil, rd_ne', ne_eq, not_false_eq_true, ne_2q2_1q2.symm, rd_own w₀ eb_1q2, rd_any, cellsAt, List.getD_cons_zero, List.getD_cons_succ, Nat.zero_add, lv_int, allLive, Bool.and_true, hlsa, hlsb]
  refine aOps_call (by rfl) (by rfl) (c_Pairs w₀ ht10 _ sa sb 0 0 ga gb la lb ((ra _).mono (by repeat (first | exact Sub.refl _ | assumption | refine Sub.set_both ?_ _ _ | refine Sub.trans_set ?_ (by repeat (first | assumption | refine (AHeap.set_ne _ _ (by first | assumption | exact Ne.symm (by assumption))).trans ?_))))) ((hgb _).mono (by repeat (first | exact Sub.refl _ | assumption | refine Sub.set_both ?_ _ _ | refine Sub.trans_set ?_ (by repeat (first | assumption | refine (AHeap.set_ne _ _ (by first | assumption | exact Ne.symm (by assumption))).trans ?_)))))) fun x5q6 h5q6 hx5q6 => ?_
  obtain ⟨pv, rfl, hpv, hcp, hs5⟩ := hx5q6
  rw [eP] at hpv ⊢
  have hlpv := hpv.live
  have hs_h5q6 : Sub h h5q6 := Sub.trans (by repeat (first | exact Sub.refl _ | assumption | refine Sub.trans_set ?_ (by assumption))) hs5
  have hr_h5q6 : Sub h2q1 h5q6 := Sub.trans (by repeat (first | exact Sub.refl _ | assumption | refine Sub.trans_set ?_ (by assumption))) hs5
  have eb_2q2 := hs5 k2q2 _ (by repeat (first | exact AHeap.set_same _ _ _ | assumption | refine (AHeap.set_ne _ _ (by first | assumption | exact Ne.symm (by assumption))).trans ?_))
  have eb_0q0 := hs5 k0q0 _ (by repeat (first | exact AHeap.set_same _ _ _ | assumption | refine (AHeap.set_ne _ _ (by first | assumption | exact Ne.symm (by assumption))).trans ?_))
  have eb_1q2 := hs5 k1q2 _ (by repeat (first | exact AHeap.set_same _ _ _ | assumption | refine (AHeap.set_ne _ _ (by first | assumption | exact Ne.symm (by assumption))).trans ?_))
  simp (decide := true) only [aOps_nil, ev, putD, Slots.put, Slots.get, Slots.keep, if_true, if_false, true_and, ↓ap_move, pop_move, ↓ap_extract, pop_extract, pExt_tuple, List.length_cons, List.length_nil, List.getD_cons_zero, List.getD_cons_succ, ↓ap_assign, pop_assign, List.getD_cons_zero, List.getD_cons_succ, Nat.zero_add, Nat.reduceAdd]
  apply hK; clear hK K
  -- region 6  law.go:138
  refine awp_rseq [7, 8, 9, 10, 11, 12, 13, 14] (by rfl) fun K hK => ?_
  simp (decide := true) only [ev, absV, absS, putD, Slots.put, Slots.get, if_true, if_false, true_and, ↓ap_loadL, apL_mk, pLoad_agg ag27 sz27, ↓ap_move, pop_move, ↓ap_build, ↓pop_buildL, bld35_0_1, evP, List.map_cons, List.map_nil, rd_own w₀ eb_1q2, rd_own w₀ eb_2q2, cellsAt, List.getD_cons_zero, List.getD_cons_succ, Nat.zero_add, lv_int, allLive, Bool.and_true, hlsa, hlsb]
  refine aOps_call (by rfl) (by rfl) (c_Numbers w₀ ht10 _ sa sb 0 0 ga gb la lb (((ra _).mono (by repeat (first | exact Sub.refl _ | assumption | refine Sub.set_both ?_ _ _ | refine Sub.trans_set ?_ (by repeat (first | assumption | refine (AHeap.set_ne _ _ (by first | assumption | exact Ne.symm (by assumption))).trans ?_))))).mono hr_h5q6) (((hgb _).mono (by repeat (first | exact Sub.refl _ | assumption | refine Sub.set_both ?_ _ _ | refine Sub.trans_set ?_ (by repeat (first | assumption | refine (AHeap.set_ne _ _ (by first | assumption | exact Ne.symm (by assumption))).trans ?_))))).mono hr_h5q6)) fun x6q6 h6q6 hx6q6 => ?_
  obtain ⟨nv, rfl, hnv, hcn, hs6⟩ := hx6q6
  rw [eN] at hnv ⊢
  have hlnv := hnv.live
  have hs_h6q6 : Sub h h6q6 := Sub.trans (by repeat (first | exact Sub.refl _ | assumption | refine Sub.trans_set ?_ (by assumption))) hs6
  have hr_h6q6 : Sub h5q6 h6q6 := Sub.trans (by repeat (first | exact Sub.refl _ | assumption | refine Sub.trans_set ?_ (by assumption))) hs6
  have eb_0q0 := hs6 k0q0 _ (by repeat (first | exact AHeap.set_same _ _ _ | assumption | refine (AHeap.set_ne _ _ (by first | assumption | exact Ne.symm (by assumption))).trans ?_))
  have eb_1q2 := hs6 k1q2 _ (by repeat (first | exact AHeap.set_same _ _ _ | assumption | refine (AHeap.set_ne _ _ (by first | assumption | exact Ne.symm (by assumption))).trans ?_))
  have eb_2q2 := hs6 k2q2 _ (by repeat (first | exact AHeap.set_same _ _ _ | assumption | refine (AHeap.set_ne _ _ (by first | assumption | exact Ne.symm (by assumption))).trans ?_))
  simp (decide := true) only [aOps_nil, ev, putD, Slots.put, Slots.get, Slots.keep, if_true, if_false, true_and, ↓ap_move, pop_move, ↓ap_extract, pop_extract, pExt_tuple, List.length_cons, List.length_nil, List.getD_cons_zero, List.getD_cons_succ, ↓ap_assign, pop_assign, List.getD_cons_zero, List.getD_cons_succ, Nat.zero_add, Nat.reduceAdd]
  apply hK; clear hK K
  -- region 7  law.go:139
  refine awp_rseq [7, 8, 11, 12, 13, 14, 15] (by rfl) fun K hK => ?_
  simp (decide := true) only [ev, putD, Slots.put, Slots.get, if_true, if_false, true_and, ↓ap_fieldAddr, pop_fieldAddr, fa27_0, ↓ap_loadL, apL_mk, pLoad_one ag25, ↓ap_move, pop_move, rd_own w₀ eb_1q2, rd_own w₀ eb_2q2, List.getD_cons_zero, Nat.zero_add, hlsa, hlsb]
  refine aOps_call (by rfl) (by rfl) (c_pairing w₀ _ sa sb ga gb la lb ((ra 0).row.mono (hr_h5q6.trans hr_h6q6)) ((hgb 0).row.mono (hr_h5q6.trans hr_h6q6)) hGa hGb (by omega) (by omega)) fun x7q6 h7q6 hx7q6 => ?_
  obtain ⟨hwv, hs7⟩ := hx7q6
  rw [eL] at hwv
  have hlwv := hwv.live
  have hs_h7q6 : Sub h h7q6 := Sub.trans (by repeat (first | exact Sub.refl _ | assumption | refine Sub.trans_set ?_ (by assumption))) hs7
  have hr_h7q6 : Sub h6q6 h7q6 := Sub.trans (by repeat (first | exact Sub.refl _ | assumption | refine Sub.trans_set ?_ (by assumption))) hs7
  have eb_0q0 := hs7 k0q0 _ (by repeat (first | exact AHeap.set_same _ _ _ | assumption | refine (AHeap.set_ne _ _ (by first | assumption | exact Ne.symm (by assumption))).trans ?_))
  have eb_1q2 := hs7 k1q2 _ (by repeat (first | exact AHeap.set_same _ _ _ | assumption | refine (AHeap.set_ne _ _ (by first | assumption | exact Ne.symm (by assumption))).trans ?_))
  have eb_2q2 := hs7 k2q2 _ (by repeat (first | exact AHeap.set_same _ _ _ | assumption | refine (AHeap.set_ne _ _ (by first | assumption | exact Ne.symm (by assumption))).trans ?_))
  simp (decide := true) only [aOps_nil, ev, putD, Slots.put, Slots.get, Slots.keep, if_true, if_false, true_and, ↓ap_assign, pop_assign]
  apply hK; clear hK K
  refine awp_seq ?_
  have hpv7 : IsL w₀ h7q6 2 pv (P.map pairC) := (hpv.mono hr_h6q6).mono hr_h7q6
  have hnv7 : IsL w₀ h7q6 2 nv ((P.filter q).map pairC) := hnv.mono hr_h7q6
  have ra7 := (((ra 0).row.mono hr_h5q6).mono hr_h6q6).mono hr_h7q6
  have rb7 := (((hgb 0).row.mono hr_h5q6).mono hr_h6q6).mono hr_h7q6
  have lp := pr_len hpv7
  have ln := pr_len hnv7
  have lw := pr_len hwv
  have cp := pr_cap hpv7 hcp
  have cn := pr_cap hnv7 hcn
  -- region 8  law.go:140
  refine awp_rseq [7, 8, 11, 13, 15, 85] (by kernel_rfl) fun K hK => ?_
  simp (decide := true) only [aOps_nil, ev, absV, absS, putD, Slots.put, Slots.get, Slots.keep, if_true, if_false, true_and, ↓ap_move, pop_move, ↓ap_binOp, pop_binOp, isNilC_int, cond_false, pBinX_int, pI_neq, ↓ag_move, agP, agQ_some, nthDst, gKnown_bool, guardB_bool_false, implies_true, decide_true, Bool.not_false, Bool.not_true, condV_true, Bool.and_true, ↓ag_binOp, ↓ap_pick, pop_pick, pPick_bool, pickV_and, ↓ag_len, pop_len, isNilC_tmp, ↓ag_cap, pop_cap, Bool.and_true, lp, ln, lw, cp, cn]
  apply hK; clear hK K
  refine awp_cond (b := _) rfl (fun hb1 => ?_) (fun hb1 => ?_)
  · exact absurd hb1 (by simp)
  · try simp only at hb1
    refine awp_skip ?_
    change Awp _ _ _ _ _ _ _
    -- region 10  law.go:143
    refine awp_rseq [7, 8, 11, 13, 15, 16] (by rfl) fun K hK => ?_
    simp (decide := true) only [aOps_nil, ev, absV, absS, putD, Slots.put, Slots.keep, if_true, if_false, true_and, ↓ap_assign, pop_assign]
    apply hK; clear hK K
    refine awp_seq ?_
    -- region 11  law.go:144
    refine awp_rseq [7, 8, 11, 13, 15, 16, 17] (by rfl) fun K hK => ?_
    simp (decide := true) only [aOps_nil, ev, absV, absS, putD, Slots.put, Slots.keep, if_true, if_false, true_and, ↓ap_assign, pop_assign]
    apply hK; clear hK K
    refine awp_block ?_
    refine awp_loopG [7, 8, 11, 13, 15, 16, 17] (fun j : Nat => [(7, .ptr (.own k1q2) 0), (8, .ptr (.own k2q2) 0), (11, pv), (13, nv), (15, x7q6), (16, .int .i64 ((P.take j).filter q).length), (17, .int .i64 j)]) (fun j : Nat => h7q6) (fun j : Nat => j ≤ P.length) (fun j : Nat => P.length - j) 0 (by rfl) (Sub.refl _) (Nat.zero_le _) ?_
    rintro j hj
    refine awp_seq ?_
    -- region 12  law.go:144
    refine awp_rseq [7, 8, 11, 13, 15, 16, 17, 89] (by rfl) fun K hK => ?_
    simp (decide := true) only [aOps_nil, ev, putD, Slots.put, Slots.get, Slots.keep, if_true, if_false, true_and, ↓ap_move, pop_move, ↓ap_len, pop_len, ↓ap_binOp, pop_binOp, isNilC_tmp, cond_false, pBinX_int, pI_lss, lp]
    apply hK; clear hK K
    refine awp_cond (b := _) rfl (fun hb2 => ?_) (fun hb2 => ?_)
    · try simp only [decide_eq_true_eq] at hb2
      have hj' : j < P.length := by omega
      obtain ⟨lp1, op1, cp1, rfl⟩ := pr_open hpv7 (by omega)
      obtain ⟨lw1, ow1, cw1, rfl⟩ := pr_open hwv (by omega)
      obtain ⟨z, hz⟩ : ∃ z, P.getD j default = z := ⟨_, rfl⟩
      have ep := pr_elem hpv7 hj'
      have ew := pr_elem hwv hj'
      rw [hz] at ep ew
      obtain ⟨ep0, ep1, ep2⟩ := ep
      have ew0 := ew.1
      have hzm : z ∈ pairsE (pathsE (items la) ga true) (pathsE (items lb) gb true) (isP (items la) (items lb)) := by
       rw [← hP, ← hz, List.getD, List.getElem?_eq_getElem hj']; exact List.getElem_mem hj'
      obtain ⟨⟨z1, z2⟩, z3, z4⟩ := pr_range hzm
      obtain ⟨lca, oa, ca, rfl⟩ := it_open ra7 hla0
      obtain ⟨lcb, ob, cb, rfl⟩ := it_open rb7 hlb0
      have qa := it_rd ra7 (i := z.1.toNat) (by omega) (j := 3) (by decide)
      have qb := it_rd rb7 (i := z.2.toNat) (by omega) (j := 3) (by decide)
      have qa' : rd w₀ h7q6 lca (oa + z.1.toNat * 22 + 3) = .int .u8 (catOf (items la) z.1) := by
       rw [qa]; unfold catOf; rw [items_getD]; rfl
      have qb' : rd w₀ h7q6 lcb (ob + z.2.toNat * 22 + 3) = .int .u8 (catOf (items lb) z.2) := by
       rw [qb]; unfold catOf; rw [items_getD]; rfl
      have hqz : q z = (decide (catOf (items la) z.1 = 4) && decide (catOf (items lb) z.2 = 4)) := by rw [hq]; rfl
      have hnext := filter_next (q := q) P j hj'
      have hPj : P[j] = z := by rw [← hz, List.getD, List.getElem?_eq_getElem hj']; rfl
      rw [hPj] at hnext
      refine awp_skip ?_
      change Awp _ _ _ _ _ _ _
      refine awp_seq ?_
      refine awp_block ?_
      refine awp_seq ?_
      -- region 14  law.go:145
      refine awp_dseq_all [7, 8, 11, 13, 15, 16, 17, 100] mixed (by kernel_rfl) (by rfl) (by rfl) fun K hK => ?_
      simp (decide := true) only [aOps_nil, ev, putD, Slots.put, Slots.get, Slots.keep, if_true, if_false, true_and, ↓ap_move, pop_move, ↓ap_indexAddrL, apL_mk, pIndexAddr_slice Tryd.underlying30 sz37, ↓ap_loadL, pLoad_agg ag37 sz37, ↓ap_binOp, pop_binOp, isNilC_tmp, cond_false, pBinX_agg, ne37, lv_int, allLive, Bool.and_true, ↓ep0, ↓ew0, Int.toNat_natCast]
      repeat (with_reducible refine And.intro ?_ ?_; · first | trivial | omega | (intro hg; simp only [Bool.and_eq_true, Bool.or_eq_true, Bool.not_eq_true', Bool.and_eq_false_iff, Bool.or_eq_false_iff, Bool.not_eq_false', decide_eq_true_eq, decide_eq_false_iff_not, eqNil] at hg; omega) )
      apply hK; clear hK K
      refine awp_cond (b := _) rfl (fun hb3 => ?_) (fun hb3 => ?_)
      · exact absurd hb3 (by simp)
      · try simp only [decide_eq_true_eq, Bool.not_eq_false', Bool.and_eq_true] at hb3
        refine awp_skip ?_
        change Awp _ _ _ _ _ _ _
        -- region 16  law.go:148
        refine awp_dseq_all [7, 8, 11, 13, 15, 16, 17, 126] mixed (by kernel_rfl) (by kernel_rfl) (by kernel_rfl) fun K hK => ?_
        simp (decide := true) only [aOps_nil, ev, absV, absS, putD, Slots.put, Slots.get, Slots.keep, if_true, if_false, true_and, ↓ap_fieldAddr, pop_fieldAddr, fa27_0, ↓ap_loadL, apL_mk, pLoad_one ag25, ↓ap_move, pop_move, ↓ap_indexAddrL, pIndexAddr_slice Tryd.underlying30 sz37, pIndexAddr_ptr Tryd.underlying37 sz3, pLoad_one ag3, pIndexAddr_slice Tryd.underlying25 sz44, fa44_3, fa41_0, pLoad_one ag38, ↓ap_binOp, pop_binOp, isNilC_int, cond_false, pBinX_int, pI_eql, ↓ag_fieldAddr, agP, agQ_some, nthDst, gKnown_bool, guardB_bool_true, implies_true, decide_true, Bool.not_true, Bool.and_true, cv_fieldAddr, cp_fieldAddr, ↓ag_loadL, agQL_some, agL_mk, agL_ld1, ↓ag_move, ↓ag_indexAddrL, agL_il1, agL_ir1, ↓ag_binOp, cv_binl, cp_binl, ↓ap_pick, pop_pick, pPick_bool, pickV_cond_l, pickV_and, rd_own w₀ eb_1q2, rd_own w₀ eb_2q2, List.getD_cons_zero, lv_int, Bool.and_true, hlsa, hlsb, ep1, ep2, qa', qb', Int.toNat_natCast, Int.toNat_zero, Int.toNat_one, Nat.zero_mul, Nat.one_mul, Nat.add_zero]
        repeat (with_reducible refine And.intro ?_ ?_; · first | trivial | omega | (intro hg; simp only [Bool.and_eq_true, Bool.or_eq_true, Bool.not_eq_true', Bool.and_eq_false_iff, Bool.or_eq_false_iff, Bool.not_eq_false', decide_eq_true_eq, decide_eq_false_iff_not, eqNil] at hg; omega) )
        apply hK; clear hK K
        refine awp_cond (b := _) rfl (fun hb4 => ?_) (fun hb4 => ?_)
        · try simp only [decide_eq_true_eq, Bool.and_eq_true] at hb4
          have hqt : q z = true := by rw [hqz]; simp [hb4]
          have hat := filter_at (q := q) P j hj' (by rw [hPj]; exact hqt)
          rw [hPj] at hat
          obtain ⟨n, hn⟩ : ∃ n, n = ((P.take j).filter q).length := ⟨_, rfl⟩
          have hnj : n ≤ j := by rw [hn]; exact filter_le q P j
          rw [← hn] at hat hnext ⊢
          have hnl : n < (P.filter q).length := by
           rcases Nat.lt_or_ge n (P.filter q).length with e | e
           · exact e
           · rw [List.getElem?_eq_none e] at hat; cases hat
          have hnn : (((P.filter q).length : Int) ≤ (n : Int)) = False := eq_false (by omega)
          obtain ⟨ln1, on1, cn1, rfl⟩ := pr_open hnv7 (by omega)
          have em := (pr_elem hnv7 hnl).1
          rw [if_pos hqt] at hnext
          have hmz : (P.filter q).getD n default = z := by rw [List.getD, hat]; rfl
          rw [hmz] at em
          refine awp_seq ?_
          -- region 17  law.go:149
          refine awp_dseq_all [7, 8, 11, 13, 15, 16, 17, 141] mixed (by kernel_rfl) (by rfl) (by rfl) fun K hK => ?_
          simp (decide := true) only [aOps_nil, ev, absV, absS, putD, Slots.put, Slots.get, Slots.keep, if_true, if_false, true_and, ↓ap_move, pop_move, ↓ap_len, pop_len, pLen_slice Tryd.underlying30, ↓ap_binOp, pop_binOp, isNilC_tmp, cond_false, pBinX_int, pI_geq, ↓ag_move, agP, agQ_some, nthDst, gKnown_bool, guardB_bool_false, implies_true, decide_true, decide_false, Bool.not_false, Bool.not_true, condV_true, forall_const, Bool.and_true, ↓ag_indexAddrL, agQL_some, agL_mk, pIndexAddr_slice Tryd.underlying30 sz37, ↓ag_loadL, pLoad_agg ag37 sz37, ↓ag_binOp, pBinX_agg, ne37, ↓ap_pick, pop_pick, pPick_bool, pickV_and, lv_int, allLive, Bool.and_true, hnn, ↓em, ↓ep0, Int.toNat_natCast]
          repeat (with_reducible refine And.intro ?_ ?_; · first | trivial | omega | (intro hg; simp only [Bool.and_eq_true, Bool.or_eq_true, Bool.not_eq_true', Bool.and_eq_false_iff, Bool.or_eq_false_iff, Bool.not_eq_false', decide_eq_true_eq, decide_eq_false_iff_not, eqNil] at hg; omega) )
          apply hK; clear hK K
          refine awp_cond (b := _) rfl (fun hb5 => ?_) (fun hb5 => ?_)
          · exact absurd hb5 (by simp)
          · try simp only at hb5
            refine awp_skip ?_
            change Awp _ _ _ _ _ _ _
            -- region 19  law.go:152
            refine awp_r [7, 8, 11, 13, 15, 16, 17] (by rfl) ?_
            simp (decide := true) only [aOps_nil, ev, absV, absS, putD, Slots.put, Slots.get, Slots.keep, if_true, if_false, true_and, ↓ap_move, pop_move, ↓ap_binOp, pop_binOp, isNilC_int, cond_false, pBinX_int, pI_add, ↓ap_assign, pop_assign]
            try simp (disch := omega) only [wrap_i64]
            change Awp _ _ _ _ _ _ _
            -- region 13  law.go:144
            refine awp_r [7, 8, 11, 13, 15, 16, 17] (by rfl) ?_
            simp (decide := true) only [aOps_nil, ev, absV, absS, putD, Slots.put, Slots.get, Slots.keep, if_true, if_false, true_and, ↓ap_move, pop_move, ↓ap_binOp, pop_binOp, isNilC_int, cond_false, pBinX_int, pI_add, ↓ap_assign, pop_assign]
            try simp (disch := omega) only [wrap_i64]
            try simp only [thenA_normal]
            refine ⟨j + 1, ?_, Sub.refl _, hj', by omega⟩
            rw [hnext]
            rfl
        · try simp only [decide_eq_false_iff_not, Bool.and_eq_false_iff] at hb4
          have hqf : ¬ q z = true := by rw [hqz]; simp; omega
          rw [if_neg hqf, Nat.add_zero] at hnext
          refine awp_skip ?_
          change Awp _ _ _ _ _ _ _
          -- region 13  law.go:144
          refine awp_r [7, 8, 11, 13, 15, 16, 17] (by rfl) ?_
          simp (decide := true) only [aOps_nil, ev, absV, absS, putD, Slots.put, Slots.get, Slots.keep, if_true, if_false, true_and, ↓ap_move, pop_move, ↓ap_binOp, pop_binOp, isNilC_int, cond_false, pBinX_int, pI_add, ↓ap_assign, pop_assign]
          try simp (disch := omega) only [wrap_i64]
          try simp only [thenA_normal]
          refine ⟨j + 1, ?_, Sub.refl _, hj', by omega⟩
          rw [hnext]
          rfl
    · try simp only [decide_eq_false_iff_not] at hb2
      obtain rfl : j = P.length := by omega
      rw [List.take_of_length_le (Nat.le_refl _)]
      refine awp_exit ?_
      change Awp _ _ _ _ _ _ _
      -- region 20  law.go:155
      refine awp_rseq [6] (by rfl) fun K hK => ?_
      simp (decide := true) only [ev, putD, Slots.put, Slots.get, if_true, if_false, true_and, ↓ap_move, pop_move, ↓ap_len, pop_len, ↓ap_binOp, pop_binOp, isNilC_tmp, cond_false, pBinX_int, pI_eql, ln]
      (refine aOps_yes (by rfl) ?_; refine aOps_callV (V := .bool true) (by rfl) (by rfl) (c_lives w₀ ht10 _) ?_)
      simp (decide := true) only [aOps_nil, ev, absV, absS, putD, Slots.put, Slots.get, Slots.keep, if_true, if_false, true_and, ↓ap_pick, pop_pick, pPick_bool, pickV_and, ↓ap_assign, pop_assign, Bool.and_true]
      apply hK; clear hK K
      refine awp_ret ?_
      refine retA_ret h (by repeat (first | exact Sub.refl _ | assumption | refine Sub.trans_set ?_ (by assumption))) (resPre_tmp (resPre_nil)) ?_
      simp (decide := true) only [Slots.get, if_true, and_true, resOf_one]
      all_goals first | rfl | exact ⟨rfl, rfl⟩ | (simp (decide := true) only [if_true, if_false, *]; done) | (trace_state; fail)
end Go.Proofs.YtgnebodlkfblcaaDoor

/-
  The arguments of the statements, opened: booleans, texts, integers, pairs of bytes; the wrap that hands on the world's shape.
  Conditions: none.
-/
namespace Go.Proofs.YtgnebodlkfblcaaDoor
open Go.AM
open Go.ChangeShapes Go.WideShapes Go.ChangeAt Go.RowKit
set_option maxRecDepth 100000

section
variable {H : Type} {enc : TypeId × Value → H} {W : World} {base : Nat} {v : Value} {x : DataW H × List MemPlace}
theorem u8_of {n : Int} (h : (Lit.int .u8 n).wf = true) : ∃ b : UInt8, (b.toNat : Int) = n := by
  have := wf_u8 h
  exact ⟨UInt8.ofNat n.toNat, by rw [UInt8.toNat_ofNat']; omega⟩

theorem arg_u8 {t : TypeId} (ht : Tryd.prog.underlying t = some (.int .u8)) (h : ∃ fuel, DataW.trod enc Tryd.prog W 0 (fun _ => true) true fuel t v.cells.toList = some x) (hv : Value.okWide Tryd.prog W .any base t v) :
    ∃ b : UInt8, VR (fun _ => none) (.int .u8 b.toNat) v := by
  obtain ⟨fuel, hf⟩ := h
  obtain ⟨n, hcs, _, hw⟩ := DataW.trod_int ht hf
  obtain ⟨b, hb⟩ := u8_of hw
  obtain ⟨m, rfl⟩ := okWide_int ht hv
  refine ⟨b, ?_⟩
  simp [Value.cells] at hcs
  simp only [VR, hb, hcs]

theorem arg_i64 {t : TypeId} (ht : Tryd.prog.underlying t = some (.int .i64)) (h : ∃ fuel, DataW.trod enc Tryd.prog W 0 (fun _ => true) true fuel t v.cells.toList = some x) (hv : Value.okWide Tryd.prog W .any base t v) :
    ∃ n : Int, VR (fun _ => none) (.int .i64 n) v ∧ -9223372036854775808 ≤ n ∧ n ≤ 9223372036854775807 := by
  obtain ⟨fuel, hf⟩ := h
  obtain ⟨n, hcs, _, hw⟩ := DataW.trod_int ht hf
  obtain ⟨m, rfl⟩ := okWide_int ht hv
  simp [Value.cells] at hcs
  subst hcs
  exact ⟨m, by simp only [VR], wf_i64 hw⟩

theorem arg_b2 (h : ∃ fuel, DataW.trod enc Tryd.prog W 0 (fun _ => true) true fuel 24 v.cells.toList = some x) (hv : Value.okWide Tryd.prog W .any base 24 v) :
    ∃ a b : UInt8, VR (fun _ => none) (.agg [.int .u8 a.toNat, .int .u8 b.toNat]) v := by
  have hw : ∃ cs : Array Value, v = .agg cs := by
    simp only [Value.okWide, Tryd.underlying24] at hv
    obtain ⟨cs, h1, _⟩ := hv
    exact ⟨cs, h1⟩
  obtain ⟨cs, rfl⟩ := hw
  obtain ⟨fuel, hf⟩ := h
  obtain ⟨xs, m, _, _, hl, hn, hc⟩ := DataW.trod_array Tryd.underlying24 hf
  have c3 : Tryd.prog.cellsOf 5 = 1 := by kernel_rfl
  rw [show Tryd.prog.cellsOf 24 = 2 by kernel_rfl] at hl
  have h0 := hc 0 (by omega)
  have h1 := hc 1 (by omega)
  obtain ⟨l⟩ := cs
  match l, hl with
  | [c0, c1], _ =>
    match xs, hn with
    | [y0, y1], _ =>
      simp only [c3, Value.cells, Nat.zero_mul, Nat.one_mul, List.drop_zero, List.drop_succ_cons, List.take_succ_cons, List.take_zero, List.getElem?_cons_zero, List.getElem?_cons_succ] at h0 h1
      obtain ⟨a, e0, _, w0⟩ := DataW.trod_int Tryd.underlying5 h0
      obtain ⟨b, e1, _, w1⟩ := DataW.trod_int Tryd.underlying5 h1
      simp only [List.cons.injEq, and_true] at e0 e1
      subst e0 e1
      obtain ⟨a', rfl⟩ := u8_of w0
      obtain ⟨b', rfl⟩ := u8_of w1
      refine ⟨a', b', ?_⟩
      simp only [VR]
      refine ⟨_, rfl, ?_⟩
      simp only [VRs]
      exact ⟨_, _, rfl, by simp only [VR], _, _, rfl, by simp only [VR], rfl⟩
end

end Go.Proofs.YtgnebodlkfblcaaDoor

/-
  The arguments of the statements, opened: a slice whose elements are of one kind, given what an element is.
  Conditions: none. Nothing here is about a particular program.
-/
namespace Go.AM
open Go.ChangeShapes Go.WideShapes Go.ChangeAt Go.RowKit

section
variable {P : Program} {H : Type} {enc : TypeId × Value → H} {W : World} {α : Type}

/-- What an element of type e is: es cells, those of an x; and what is known of x. -/
structure RowOf (P : Program) (enc : TypeId × Value → H) (W : World) (e : TypeId) (es : Nat) (el : α → List Value) (inv : α → Prop) : Prop where
  size : P.cellsOf e = es
  pos : 0 < es
  len : ∀ x, (el x).length = es
  live : ∀ x, inv x → allLive ((el x).map absS) = true
  cell : ∀ (n : Nat) (cs : List Value) (y : DataW H × List MemPlace), DataW.trod enc P W 0 (fun _ => true) true n e cs = some y → ∃ x, cs = el x ∧ inv x

theorem rows_list {el : α → List Value} {inv : α → Prop} {es : Nat} {a : Addr} : ∀ (len : Nat), (∀ i, i < len → ∃ x : α, inv x ∧ ∀ j, j < es → W.cell? (a.add (i * es + j)) = (el x)[j]?) →
    ∃ l : List α, l.length = len ∧ (∀ x ∈ l, inv x) ∧ ∀ i (hi : i < l.length), ∀ j, j < es → W.cell? (a.add (i * es + j)) = (el l[i])[j]?
  | 0, _ => ⟨[], rfl, by simp, fun i hi => by simp at hi⟩
  | n + 1, h => by
    obtain ⟨l, h1, h2, h3⟩ := rows_list n fun i hi => h i (by omega)
    obtain ⟨x, hx, hc⟩ := h n (by omega)
    refine ⟨l ++ [x], by simp [h1], ?_, fun i hi j hj => ?_⟩
    · intro y hy
      rcases List.mem_append.1 hy with hy | hy
      · exact h2 y hy
      · rw [List.mem_singleton.1 hy]; exact hx
    · by_cases hin : i < l.length
      · rw [List.getElem_append_left hin]
        exact h3 i hin j hj
      · have e : i = n := by simp at hi; omega
        subst e
        have : (l ++ [x])[i] = x := by rw [List.getElem_append_right (by omega)]; simp
        rw [this]
        exact hc j hj

theorem isL_rows {el : α → List Value} {inv : α → Prop} {es : Nat} (hes : 0 < es) (hlen : ∀ x, (el x).length = es) (hlive : ∀ x, inv x → allLive ((el x).map absS) = true) {b o cap : Nat} {l : List α} (hi : ∀ x ∈ l, inv x) (hcap : l.length ≤ cap)
    (hc : ∀ i (hi : i < l.length), ∀ j, j < es → W.cell? ((⟨b, o, none⟩ : Addr).add (i * es + j)) = (el l[i])[j]?) :
    IsL W (fun _ => none) es (.slice (.base b) o l.length (.exact cap)) (l.map fun x => (el x).map absS) := by
  have hw : ∀ x ∈ l.map (fun x => (el x).map absS), x.length = es := by
    intro x hx
    obtain ⟨y, _, rfl⟩ := List.mem_map.1 hx
    rw [List.length_map, hlen]
  refine .mk _ _ _ _ _ (by rw [List.length_map]) hw ?_ (allLive_flatten.2 fun x hx => by obtain ⟨y, hy, rfl⟩ := List.mem_map.1 hx; exact hlive y (hi y hy)) hcap
  apply List.ext_getElem?
  intro q
  by_cases hq : q < l.length * es
  · rw [cellsAt_get _ _ _ _ _ _ hq]
    have hm : q % es < es := Nat.mod_lt _ hes
    have hd : q / es < l.length := Nat.div_lt_of_lt_mul (by rw [Nat.mul_comm]; exact hq)
    have hqe : q = q / es * es + q % es := by rw [Nat.mul_comm]; exact (Nat.div_add_mod q es).symm
    have hcell := hc (q / es) hd (q % es) hm
    rw [← hqe] at hcell
    have ea : (⟨b, o, none⟩ : Addr).add q = ⟨b, o + q, none⟩ := by by_cases e : q = 0 <;> simp [Addr.add, e]
    rw [ea, List.getElem?_eq_getElem (by rw [hlen]; exact hm)] at hcell
    have h2 := flatten_get hw (i := q / es) (j := q % es) (by rw [List.length_map]; exact hd) hm
    rw [← hqe] at h2
    rw [h2, List.getD_eq_getElem?_getD, List.getElem?_map, List.getElem?_eq_getElem hd, Option.map_some, Option.getD_some, List.getElem?_map, List.getElem?_eq_getElem (by rw [hlen]; exact hm), Option.map_some]
    have hlt : b < W.heap.size := cell_lt hcell
    simp only [AM.rd, hlt, if_true, hcell]
  · rw [List.getElem?_eq_none (by rw [cellsAt_length]; omega), List.getElem?_eq_none (by rw [flatten_len hw, List.length_map]; omega)]

theorem trod_rows {e t : TypeId} {es : Nat} {el : α → List Value} {inv : α → Prop} (R : RowOf P enc W e es el inv) (ht : P.underlying t = some (.slice e)) {n : Nat} {cs : List Value} {y : DataW H × List MemPlace} (h : DataW.trod enc P W 0 (fun _ => true) true n t cs = some y) :
    ∃ (v : Value) (l : List α), cs = [v] ∧ IsL W (fun _ => none) es (absS v) (l.map fun x => (el x).map absS) ∧ l.length ≤ 9223372036854775807 ∧ ∀ x ∈ l, inv x := by
  rcases DataW.trod_slice ht h with ⟨hcs, _⟩ | ⟨a, len, cap, elems, rest, n', _, hcs, _, _, hlc, hcm, hel, hcell, hspare, _⟩
  · exact ⟨_, [], hcs, .nil, by simp, by simp⟩
  · have hlen : len ≤ 9223372036854775807 := Nat.le_trans hlc hcm
    have one : ∀ (m i : Nat) (q : Option (DataW H × List MemPlace)), (W.cells? 0 (a.add (i * P.cellsOf e)) (P.cellsOf e)).bind (DataW.trod enc P W 0 (fun _ => true) true m e) = q → q.isSome = true → ∃ x : α, inv x ∧ ∀ j, j < es → W.cell? (a.add (i * es + j)) = (el x)[j]? := by
      intro m i q hq hs
      cases q with
      | none => cases hs
      | some z =>
        rw [Option.bind_eq_some_iff] at hq
        obtain ⟨cs', hcs', hy⟩ := hq
        obtain ⟨x, rfl, hx⟩ := R.cell _ _ _ hy
        rw [R.size] at hcs'
        refine ⟨x, hx, fun j hj => ?_⟩
        have := (World.cells?_some hcs').2.2 j hj
        rw [← this]
        congr 1
        obtain ⟨ab, ao, asp⟩ := a
        by_cases e1 : i * es = 0 <;> by_cases e2 : j = 0 <;> simp [Addr.add, e1, e2, Nat.add_assoc]
    obtain ⟨l, l1, l2, l3⟩ := rows_list (W := W) (el := el) (inv := inv) (es := es) (a := a) len fun i hi => one n' i _ (hcell i hi) (by rw [List.getElem?_eq_getElem (by omega)]; rfl)
    have spot : ∀ (x : α), (∀ j, j < es → W.cell? (a.add (0 * es + j)) = (el x)[j]?) → a.spot = none := by
      intro x hx
      have h0 := hx 0 R.pos
      rw [List.getElem?_eq_getElem (by rw [R.len]; exact R.pos)] at h0
      have := World.cell?_spot h0
      rwa [Addr.add, if_pos (by rw [Nat.zero_mul])] at this
    refine ⟨.slice (some a) len cap, l, hcs, ?_, by omega, l2⟩
    subst l1
    obtain ⟨ab, ao, asp⟩ := a
    by_cases hc0 : cap = 0
    · have hl0 : l = [] := List.eq_nil_of_length_eq_zero (by omega)
      subst hl0
      subst hc0
      cases asp with
      | none => exact isL_rows (l := ([] : List α)) (inv := inv) R.pos R.len R.live (fun x hx => by cases hx) (Nat.le_refl _) fun i hi => absurd hi (Nat.not_lt_zero i)
      | some s => exact isL_rows (l := ([] : List α)) (inv := inv) R.pos R.len R.live (fun x hx => by cases hx) (Nat.le_refl _) fun i hi => absurd hi (Nat.not_lt_zero i)
    · have hs : asp = none := by
        by_cases hl0 : l.length = 0
        · obtain ⟨r1, r2⟩ := hspare rfl
          obtain ⟨x, _, hx⟩ := one n' l.length _ (r2 0 (by omega)) (by rw [List.getElem?_eq_getElem (by omega)]; rfl)
          rw [hl0] at hx
          exact spot x hx
        · exact spot _ (l3 0 (by omega))
      subst hs
      exact isL_rows (inv := inv) R.pos R.len R.live l2 hlc l3
end
end Go.AM

/-
  The arguments of the statements about pairs, opened: entries; the listed table.
  Conditions: none.
-/
namespace Go.Proofs.YtgnebodlkfblcaaDoor
open Go.AM
open Go.Prs
open Go.ChangeShapes Go.WideShapes Go.ChangeAt Go.RowKit
set_option maxRecDepth 100000
/-- The listed table of powers of ten. -/
theorem tab_of {W : World} {rest : List (String × DataW Unit)} (h : laidMet Tryd.prog (("internal/strconv.uint64pow10", Rows.laid_internal_strconv_uint64pow10) :: rest) W) : Tab10 W :=
  Lib.tabIs_of_head (g := 0) (by kernel_rfl) (by kernel_rfl) (show Tryd.prog.underlying 122 = _ from Tryd.underlying122) Tryd.underlying103 (by kernel_rfl) (by kernel_rfl) h

section
variable {H : Type} {enc : TypeId × Value → H} {W : World} {base : Nat} {v : Value} {x : DataW H × List MemPlace}
def entV (e : EntryP) : List Value := [.int .u8 e.level, .int .u8 e.name, .int .u8 e.kind, .int .u8 e.flag]
theorem entV_abs (l : List EntryP) : (l.map fun e => (entV e).map absS) = l.map entC := rfl
theorem u8_nat {n : Int} (h : (Lit.int .u8 n).wf = true) : ∃ b : Nat, b < 256 ∧ n = b := by
  obtain ⟨a0, a1⟩ := wf_u8 h
  exact ⟨n.toNat, by omega, by omega⟩
theorem ent_row : RowOf Tryd.prog enc W 58 4 entV EntOk := by
  refine ⟨by kernel_rfl, by decide, fun _ => rfl, fun _ _ => rfl, fun n cs y h => ?_⟩
  obtain ⟨y0, y1, y2, y3, n', _, hl, h0, h1, h2, h3⟩ := Go.Joins.trod_struct4 Tryd.underlying58 h
  rw [show Tryd.prog.cellsOf 58 = 4 by kernel_rfl] at hl
  match cs, hl with
  | [c0, c1, c2, c3], _ =>
    simp only [show Tryd.prog.cellsOf 5 = 1 by kernel_rfl, List.drop_zero, List.drop_succ_cons, List.take_succ_cons, List.take_zero] at h0 h1 h2 h3
    obtain ⟨a, e0, _, w0⟩ := DataW.trod_int Tryd.underlying5 h0
    obtain ⟨b, e1, _, w1⟩ := DataW.trod_int Tryd.underlying5 h1
    obtain ⟨c, e2, _, w2⟩ := DataW.trod_int Tryd.underlying5 h2
    obtain ⟨d, e3, _, w3⟩ := DataW.trod_int Tryd.underlying5 h3
    simp only [List.cons.injEq, and_true] at e0 e1 e2 e3
    subst e0 e1 e2 e3
    obtain ⟨a', k0, rfl⟩ := u8_nat w0
    obtain ⟨b', k1, rfl⟩ := u8_nat w1
    obtain ⟨c', k2, rfl⟩ := u8_nat w2
    obtain ⟨d', k3, rfl⟩ := u8_nat w3
    exact ⟨⟨a', b', c', d'⟩, rfl, k0, k1, k2, k3⟩
theorem arg_T (h : ∃ fuel, DataW.trod enc Tryd.prog W 0 (fun _ => true) true fuel 23 v.cells.toList = some x) (hv : Value.okWide Tryd.prog W .any base 23 v) :
    ∃ (l : List EntryP) (y : AVal), VR (fun _ => none) y v ∧ IsL W (fun _ => none) 4 y (l.map entC) ∧ l.length ≤ 9223372036854775807 ∧ ∀ t ∈ l, EntOk t := by
  obtain ⟨fuel, h2⟩ := h
  obtain ⟨a0, len0, cap0, rfl⟩ := okWide_slice Tryd.underlying23 hv
  have h2' : DataW.trod enc Tryd.prog W 0 (fun _ => true) true fuel 23 [.slice a0 len0 cap0] = some x := h2
  obtain ⟨v', l, hcs, hL, hl, hi⟩ := trod_rows ent_row Tryd.underlying23 h2'
  simp only [List.cons.injEq, and_true] at hcs
  subst hcs
  rw [entV_abs] at hL
  refine ⟨l, _, ?_, hL, hl, hi⟩
  exact VR_absS _ _
end
end Go.Proofs.YtgnebodlkfblcaaDoor

/-
  The law PairsSwap.
  Conditions: none.
-/
namespace Go.Prs
theorem filter_getD {α : Type} [Inhabited α] {q : α → Bool} (l : List α) (j : Nat) (hj : j < l.length) : ((l.take (j + 1)).filter q).length = ((l.take j).filter q).length + if q (l.getD j default) then 1 else 0 := by
  rw [filter_next l j hj, List.getD, List.getElem?_eq_getElem hj]
  rfl
end Go.Prs
namespace Go.Proofs.YtgnebodlkfblcaaDoor
open Go.AM
open Go.Proofs
open Go.Col
open Go.Prs
set_option maxRecDepth 100000

set_option maxHeartbeats 4000000 in
theorem l_PairsSwap (w₀ : World) (ht10 : Tab10 w₀) (h : AHeap) (v0 : AVal) (c0 : List EntryP) (hm0 : IsL w₀ h 4 v0 (c0.map entC)) (hl0 : c0.length ≤ 9223372036854775807) (hk0 : ∀ e ∈ c0, EntOk e) (v1 : AVal) (c1 : List EntryP) (hm1 : IsL w₀ h 4 v1 (c1.map entC)) (hl1 : c1.length ≤ 9223372036854775807) (hk1 : ∀ e ∈ c1, EntOk e) (a2 b2 : UInt8) :
    ACall Tryd.prog w₀ 4 [v0, v1, .agg [.int .u8 a2.toNat, .int .u8 b2.toNat]] h (fun x _ => x = .bool true) := by
  refine ACall.mono (R := fun x h' => x = .bool true ∧ h' = h) ?_ fun x h' hx => hx.1
  have hlv0 := hm0.live
  have hlv1 := hm1.live
  have ha2 : a2.toNat < 256 := a2.toNat_lt
  have hb2 : b2.toNat < 256 := b2.toNat_lt
  refine acall_intro (n := 102) (rs := [.tmp 6]) Tryd.func4 rfl rfl rfl rfl (Nat.le_of_ble_eq_true rfl) ?_
  simp only [initSlots]
  -- region 0  law.go:160
  refine awp_rseq [0, 1, 5] (by rfl) fun K hK => ?_
  refine aOps_box (by rfl) (by rfl) (by rfl) fun k0q0 hk0q0 => ?_
  try have hf_0q0 : h k0q0 = none := by first | assumption | (simp only [AHeap.set_none] at hk0q0; simp only [hk0q0])
  skip
  simp (decide := true) only [aOps_nil, ev, absV, absS, putD, Slots.put, Slots.get, Slots.keep, if_true, if_false, true_and, ↓ap_assign, pop_assign, AVal.cells, Nat.zero_add, Nat.reduceAdd]
  apply hK; clear hK K
  -- region 1  law.go:161
  refine awp_rseq [1, 5, 7] (by rfl) fun K hK => ?_
  simp (decide := true) only [ev, putD, Slots.put, Slots.get, if_true, if_false, true_and, ↓ap_move, pop_move]
  refine aOps_call (by rfl) (by rfl) (c_Of w₀ _ v0 c0 (hm0.mono (by repeat (first | exact Sub.refl _ | assumption | refine Sub.set_both ?_ _ _ | refine Sub.trans_set ?_ (by repeat (first | assumption | refine (AHeap.set_ne _ _ (by first | assumption | exact Ne.symm (by assumption))).trans ?_))))) hk0 hl0) fun x1q1 h1q1 hx1q1 => ?_
  obtain ⟨sa, la, rfl, hia, hga, hsca, hs1⟩ := of_rec (w₀ := w₀) hx1q1
  have hsc := hsca
  have hlsa := (hga 0).row.live
  have hlla : la.length ≤ 21 := by rw [← items_len, hia, of_len]; omega
  have hs_h1q1 : Sub h h1q1 := Sub.trans (by repeat (first | exact Sub.refl _ | assumption | refine Sub.trans_set ?_ (by assumption))) hs1
  have hr_h1q1 := hs_h1q1
  have eb_0q0 := hs1 k0q0 _ (by repeat (first | exact AHeap.set_same _ _ _ | assumption | refine (AHeap.set_ne _ _ (by first | assumption | exact Ne.symm (by assumption))).trans ?_))
  refine aOps_alloc ze27 (cs := [.nilSlice, .int .i64 0]) (by rfl) fun k1q2 hk1q2 => ?_
  have hn_1q2 : h1q1 k1q2 = none := by first | assumption | (simp only [AHeap.set_none] at hk1q2; simp only [hk1q2])
  have hf_1q2 : h k1q2 = none := Sub.none hs_h1q1 hn_1q2
  have ne_1q2_0q0 : k1q2 ≠ k0q0 := AHeap.ne_some hn_1q2 eb_0q0
  refine aOps_store (by rfl) (by rfl) (by repeat (first | exact AHeap.set_same _ _ _ | assumption | refine (AHeap.set_ne _ _ (by first | assumption | exact Ne.symm (by assumption))).trans ?_)) sz27 (by rfl) (by rfl) (by first | exact Nat.le_refl _ | decide | (simp; done) | (simp; omega)) (Nat.zero_le _) (by first | rfl | (simp (decide := true) only [ev, putD, Slots.put, Slots.get, if_true, if_false, AVal.cells, allScal, Bool.and_true, hsca, sc_int])) ?_
  simp only [AHeap.set_set, AVal.cells]
  simp (decide := true) only [aOps_nil, ev, putD, Slots.put, Slots.get, Slots.keep, if_true, if_false, setAt, List.set_cons_zero, List.set_cons_succ, Nat.zero_add]
  apply hK; clear hK K
  -- region 2  law.go:162
  refine awp_rseq [5, 7, 8] (by rfl) fun K hK => ?_
  simp (decide := true) only [ev, putD, Slots.put, Slots.get, if_true, if_false, true_and, ↓ap_move, pop_move]
  refine aOps_call (by rfl) (by rfl) (c_Of w₀ _ v1 c1 (hm1.mono (by repeat (first | exact Sub.refl _ | assumption | refine Sub.set_both ?_ _ _ | refine Sub.trans_set ?_ (by repeat (first | assumption | refine (AHeap.set_ne _ _ (by first | assumption | exact Ne.symm (by assumption))).trans ?_))))) hk1 hl1) fun x2q1 h2q1 hx2q1 => ?_
  obtain ⟨sb, lb, rfl, hib, hgb, hsc, hs2⟩ := of_rec (w₀ := w₀) hx2q1
  have hlsb := (hgb 0).row.live
  have hllb : lb.length ≤ 21 := by rw [← items_len, hib, of_len]; omega
  have hs_h2q1 : Sub h h2q1 := Sub.trans (by repeat (first | exact Sub.refl _ | assumption | refine Sub.trans_set ?_ (by assumption))) hs2
  have hr_h2q1 : Sub h1q1 h2q1 := Sub.trans (by repeat (first | exact Sub.refl _ | assumption | refine Sub.trans_set ?_ (by assumption))) hs2
  have eb_1q2 := hs2 k1q2 _ (by repeat (first | exact AHeap.set_same _ _ _ | assumption | refine (AHeap.set_ne _ _ (by first | assumption | exact Ne.symm (by assumption))).trans ?_))
  have eb_0q0 := hs2 k0q0 _ (by repeat (first | exact AHeap.set_same _ _ _ | assumption | refine (AHeap.set_ne _ _ (by first | assumption | exact Ne.symm (by assumption))).trans ?_))
  refine aOps_alloc ze27 (cs := [.nilSlice, .int .i64 0]) (by rfl) fun k2q2 hk2q2 => ?_
  have hn_2q2 : h2q1 k2q2 = none := by first | assumption | (simp only [AHeap.set_none] at hk2q2; simp only [hk2q2])
  have hf_2q2 : h k2q2 = none := Sub.none hs_h2q1 hn_2q2
  have ne_2q2_0q0 : k2q2 ≠ k0q0 := AHeap.ne_some hn_2q2 eb_0q0
  have ne_2q2_1q2 : k2q2 ≠ k1q2 := AHeap.ne_some hn_2q2 eb_1q2
  refine aOps_store (by rfl) (by rfl) (by repeat (first | exact AHeap.set_same _ _ _ | assumption | refine (AHeap.set_ne _ _ (by first | assumption | exact Ne.symm (by assumption))).trans ?_)) sz27 (by rfl) (by rfl) (by first | exact Nat.le_refl _ | decide | (simp; done) | (simp; omega)) (Nat.zero_le _) (by first | rfl | (simp (decide := true) only [ev, putD, Slots.put, Slots.get, if_true, if_false, AVal.cells, allScal, Bool.and_true, hsc, sc_int])) ?_
  simp only [AHeap.set_set, AVal.cells]
  simp (decide := true) only [aOps_nil, ev, putD, Slots.put, Slots.get, Slots.keep, if_true, if_false, setAt, List.set_cons_zero, List.set_cons_succ, Nat.zero_add]
  apply hK; clear hK K
  have ra : ∀ g, GrpOk w₀ h2q1 sa g la := fun g => (hga g).mono hr_h2q1
  have hina := items_len la
  have hinb := items_len lb
  have hla0 : 0 < la.length := by rw [← hina, hia, of_len]; omega
  have hlb0 : 0 < lb.length := by rw [← hinb, hib, of_len]; omega
  obtain ⟨ga, hga'⟩ : ∃ g, g = groupE (items la) a2.toNat := ⟨_, rfl⟩
  obtain ⟨gb, hgb'⟩ : ∃ g, g = groupE (items lb) b2.toNat := ⟨_, rfl⟩
  have hca : checkE (items la) (ga : Int) = 0 := by rw [hga', hia]; exact (of_check c0 _).1
  have hcb : checkE (items lb) (gb : Int) = 0 := by rw [hgb', hib]; exact (of_check c1 _).1
  obtain ⟨P, hP⟩ : ∃ P, P = pairsE (pathsE (items la) ga true) (pathsE (items lb) gb true) (isP (items la) (items lb)) := ⟨_, rfl⟩
  obtain ⟨Q, hQ⟩ : ∃ Q, Q = pairsE (pathsE (items lb) gb true) (pathsE (items la) ga true) (isP (items lb) (items la)) := ⟨_, rfl⟩
  have hPl : P.length ≤ 441 := by
   have h1 := pr_few (items la) (items lb) ga gb (isP (items la) (items lb))
   have h2 : (items la).length * (items lb).length ≤ 21 * 21 := Nat.mul_le_mul (by omega) (by omega)
   rw [hP]; omega
  have hPQ : P.length = Q.length := by rw [hP, hQ]; exact swap_len (paths_asc _ _ _) (paths_asc _ _ _)
  have eP : amongR (items la) (items lb) ga gb (isP (items la) (items lb)) = (P, 0) := by
   unfold amongR
   rw [if_neg (by rw [hca]; simp), if_neg (by rw [hcb]; simp), hP]
  have eQ : amongR (items lb) (items la) gb ga (isP (items lb) (items la)) = (Q, 0) := by
   unfold amongR
   rw [if_neg (by rw [hcb]; simp), if_neg (by rw [hca]; simp), hQ]
  -- region 3  law.go:163
  refine awp_dseq_F 8 [] [5, 8, 9] mixed (by kernel_rfl) (by rfl) fun K hK => ?_
  simp only [List.take_succ_cons, List.take_zero, List.drop_succ_cons, List.drop_zero]
  simp (decide := true) only [ev, absV, absS, putD, Slots.put, Slots.get, if_true, if_false, true_and, ↓fp_load, pop_load, pLoad_agg ag27 sz27, ↓fp_fieldAddr, pop_fieldAddr, fa27_0, pLoad_one ag25, ↓fp_indexAddr, pIndexAddr_ptr Tryd.underlying24 sz5, pop_indexAddr, pLoad_one ag5, rd_ne', ne_eq, not_false_eq_true, ne_2q2_0q0.symm, ne_2q2_1q2.symm, rd_own w₀ eb_0q0, rd_own w₀ eb_1q2, cellsAt, List.getD_cons_zero, List.getD_cons_succ, Nat.zero_add, lv_int, allLive, Bool.and_true, hlsa, Int.toNat_zero, Nat.zero_mul]
  refine fOps_callV (V := .int .i64 ga) (by rfl) (by rfl) (by first | trivial | (simp (decide := true) only [AVal.okIn, okInL, and_true, true_and, grpA, AHeap.set_same, Option.isSome_some]; done) | (simp [AVal.okIn, okInL, AHeap.set]; done)) (fun g hg => by rw [hga']; exact c_group w₀ g sa a2.toNat la ((ra 0).row.mono (Sub.trans (by repeat (first | exact Sub.refl _ | assumption | refine Sub.set_both ?_ _ _ | refine Sub.trans_set ?_ (by repeat (first | assumption | refine (AHeap.set_ne _ _ (by first | assumption | exact Ne.symm (by assumption))).trans ?_)))) hg)) ha2 hla0 (by rw [hia]; exact of_top c0) (by omega)) ?_
  simp (decide := true) only [ev, absV, absS, putD, Slots.put, Slots.get, if_true, if_false, true_and, ↓fp_build, ↓pop_buildL, bld35_0_1, evP, List.map_cons, List.map_nil]
  refine fOps_lay (by rfl) ?_
  refine aOps_alloc ze35 (cs := [.nilSlice, .int .i64 0, .int .i64 0]) (by rfl) fun k3q7 hk3q7 => ?_
  have ne_3q7_2q2 : k3q7 ≠ k2q2 := by simp only [AHeap.set_none] at hk3q7; simp only [hk3q7, ne_eq, not_false_eq_true]
  have hn_3q7 : h2q1 k3q7 = none := by first | assumption | (simp only [AHeap.set_none] at hk3q7; simp only [hk3q7])
  have hf_3q7 : h k3q7 = none := Sub.none hs_h2q1 hn_3q7
  have ne_3q7_0q0 : k3q7 ≠ k0q0 := AHeap.ne_some hn_3q7 eb_0q0
  have ne_3q7_1q2 : k3q7 ≠ k1q2 := AHeap.ne_some hn_3q7 eb_1q2
  rw [aOps_nil]
  try simp only [fOps_nil]
  refine aOps_store (by rfl) (by rfl) (by repeat (first | exact AHeap.set_same _ _ _ | assumption | refine (AHeap.set_ne _ _ (by first | assumption | exact Ne.symm (by assumption))).trans ?_)) sz35 (by rfl) (by rfl) (by first | exact Nat.le_refl _ | decide | (simp; done) | (simp; omega)) (Nat.zero_le _) (by first | rfl | (simp (decide := true) only [ev, putD, Slots.put, Slots.get, if_true, if_false, AVal.cells, allScal, Bool.and_true, hsca, sc_int])) ?_
  simp only [AHeap.set_set, AVal.cells]
  simp (decide := true) only [aOps_nil, ev, putD, Slots.put, Slots.get, Slots.keep, if_true, if_false, setAt, List.set_cons_zero, List.set_cons_succ, Nat.zero_add, Nat.reduceAdd]
  apply hK; clear hK K
  -- region 4  law.go:164
  refine awp_dseq_F 8 [] [9, 10] mixed (by kernel_rfl) (by rfl) fun K hK => ?_
  simp only [List.take_succ_cons, List.take_zero, List.drop_succ_cons, List.drop_zero]
  simp (decide := true) only [ev, absV, absS, putD, Slots.put, Slots.get, if_true, if_false, true_and, ↓fp_load, pop_load, pLoad_agg ag27 sz27, ↓fp_fieldAddr, pop_fieldAddr, fa27_0, pLoad_one ag25, ↓fp_indexAddr, pIndexAddr_ptr Tryd.underlying24 sz5, pop_indexAddr, pLoad_one ag5, rd_ne', ne_eq, not_false_eq_true, ne_2q2_0q0.symm, ne_3q7_2q2.symm, ne_3q7_0q0.symm, rd_own w₀ eb_0q0, rd_any, cellsAt, List.getD_cons_zero, List.getD_cons_succ, Nat.zero_add, lv_int, allLive, Bool.and_true, hlsb, Int.toNat_one, Nat.one_mul]
  refine fOps_callV (V := .int .i64 gb) (by rfl) (by rfl) (by first | trivial | (simp (decide := true) only [AVal.okIn, okInL, and_true, true_and, grpA, AHeap.set_same, Option.isSome_some]; done) | (simp [AVal.okIn, okInL, AHeap.set]; done)) (fun g hg => by rw [hgb']; exact c_group w₀ g sb b2.toNat lb ((hgb 0).row.mono (Sub.trans (by repeat (first | exact Sub.refl _ | assumption | refine Sub.set_both ?_ _ _ | refine Sub.trans_set ?_ (by repeat (first | assumption | refine (AHeap.set_ne _ _ (by first | assumption | exact Ne.symm (by assumption))).trans ?_)))) hg)) hb2 hlb0 (by rw [hib]; exact of_top c1) (by omega)) ?_
  simp (decide := true) only [ev, absV, absS, putD, Slots.put, Slots.get, if_true, if_false, true_and, ↓fp_build, ↓pop_buildL, bld35_0_1, evP, List.map_cons, List.map_nil]
  refine fOps_lay (by rfl) ?_
  refine aOps_alloc ze35 (cs := [.nilSlice, .int .i64 0, .int .i64 0]) (by rfl) fun k4q7 hk4q7 => ?_
  have ne_4q7_2q2 : k4q7 ≠ k2q2 := by simp only [AHeap.set_none] at hk4q7; simp only [hk4q7, ne_eq, not_false_eq_true]
  have ne_4q7_3q7 : k4q7 ≠ k3q7 := by simp only [AHeap.set_none] at hk4q7; simp only [hk4q7, ne_eq, not_false_eq_true]
  have hn_4q7 : h2q1 k4q7 = none := by first | assumption | (simp only [AHeap.set_none] at hk4q7; simp only [hk4q7])
  have hf_4q7 : h k4q7 = none := Sub.none hs_h2q1 hn_4q7
  have ne_4q7_0q0 : k4q7 ≠ k0q0 := AHeap.ne_some hn_4q7 eb_0q0
  have ne_4q7_1q2 : k4q7 ≠ k1q2 := AHeap.ne_some hn_4q7 eb_1q2
  rw [aOps_nil]
  try simp only [fOps_nil]
  refine aOps_store (by rfl) (by rfl) (by repeat (first | exact AHeap.set_same _ _ _ | assumption | refine (AHeap.set_ne _ _ (by first | assumption | exact Ne.symm (by assumption))).trans ?_)) sz35 (by rfl) (by rfl) (by first | exact Nat.le_refl _ | decide | (simp; done) | (simp; omega)) (Nat.zero_le _) (by first | rfl | (simp (decide := true) only [ev, putD, Slots.put, Slots.get, if_true, if_false, AVal.cells, allScal, Bool.and_true, hsc, sc_int])) ?_
  simp only [AHeap.set_set, AVal.cells]
  simp (decide := true) only [aOps_nil, ev, putD, Slots.put, Slots.get, Slots.keep, if_true, if_false, setAt, List.set_cons_zero, List.set_cons_succ, Nat.zero_add, Nat.reduceAdd]
  apply hK; clear hK K
  -- region 5  law.go:165
  refine awp_rseq [9, 10, 11, 12] (by rfl) fun K hK => ?_
  simp (decide := true) only [ev, putD, Slots.put, Slots.get, if_true, if_false, true_and, ↓ap_loadL, apL_mk, pLoad_agg ag35 sz35, rd_ne', ne_eq, not_false_eq_true, ne_4q7_3q7.symm, rd_any, cellsAt, List.getD_cons_zero, List.getD_cons_succ, Nat.zero_add, Nat.reduceAdd, lv_int, allLive, Bool.and_true, hlsa, hlsb]
  refine aOps_call (by rfl) (by rfl) (c_Pairs w₀ ht10 _ sa sb 0 0 ga gb la lb ((ra _).mono (by repeat (first | exact Sub.refl _ | assumption | refine Sub.set_both ?_ _ _ | refine Sub.trans_set ?_ (by repeat (first | assumption | refine (AHeap.set_ne _ _ (by first | assumption | exact Ne.symm (by assumption))).trans ?_))))) ((hgb _).mono (by repeat (first | exact Sub.refl _ | assumption | refine Sub.set_both ?_ _ _ | refine Sub.trans_set ?_ (by repeat (first | assumption | refine (AHeap.set_ne _ _ (by first | assumption | exact Ne.symm (by assumption))).trans ?_)))))) fun x5q2 h5q2 hx5q2 => ?_
  obtain ⟨pv, rfl, hpv, hcp, hs5⟩ := hx5q2
  rw [eP] at hpv ⊢
  have hlpv := hpv.live
  have hs_h5q2 : Sub h h5q2 := Sub.trans (by repeat (first | exact Sub.refl _ | assumption | refine Sub.trans_set ?_ (by assumption))) hs5
  have hr_h5q2 : Sub h2q1 h5q2 := Sub.trans (by repeat (first | exact Sub.refl _ | assumption | refine Sub.trans_set ?_ (by assumption))) hs5
  have eb_2q2 := hs5 k2q2 _ (by repeat (first | exact AHeap.set_same _ _ _ | assumption | refine (AHeap.set_ne _ _ (by first | assumption | exact Ne.symm (by assumption))).trans ?_))
  have eb_3q7 := hs5 k3q7 _ (by repeat (first | exact AHeap.set_same _ _ _ | assumption | refine (AHeap.set_ne _ _ (by first | assumption | exact Ne.symm (by assumption))).trans ?_))
  have eb_4q7 := hs5 k4q7 _ (by repeat (first | exact AHeap.set_same _ _ _ | assumption | refine (AHeap.set_ne _ _ (by first | assumption | exact Ne.symm (by assumption))).trans ?_))
  have eb_0q0 := hs5 k0q0 _ (by repeat (first | exact AHeap.set_same _ _ _ | assumption | refine (AHeap.set_ne _ _ (by first | assumption | exact Ne.symm (by assumption))).trans ?_))
  have eb_1q2 := hs5 k1q2 _ (by repeat (first | exact AHeap.set_same _ _ _ | assumption | refine (AHeap.set_ne _ _ (by first | assumption | exact Ne.symm (by assumption))).trans ?_))
  simp (decide := true) only [aOps_nil, ev, putD, Slots.put, Slots.get, Slots.keep, if_true, if_false, true_and, ↓ap_move, pop_move, ↓ap_extract, pop_extract, pExt_tuple, List.length_cons, List.length_nil, List.getD_cons_zero, List.getD_cons_succ, ↓ap_assign, pop_assign, List.getD_cons_zero, List.getD_cons_succ, Nat.zero_add, Nat.reduceAdd]
  apply hK; clear hK K
  -- region 6  law.go:166
  refine awp_rseq [11, 12, 13, 14] (by rfl) fun K hK => ?_
  simp (decide := true) only [ev, putD, Slots.put, Slots.get, if_true, if_false, true_and, ↓ap_loadL, apL_mk, pLoad_agg ag35 sz35, rd_own w₀ eb_3q7, rd_own w₀ eb_4q7, cellsAt, List.getD_cons_zero, List.getD_cons_succ, Nat.zero_add, Nat.reduceAdd, lv_int, allLive, Bool.and_true, hlsa, hlsb]
  refine aOps_call (by rfl) (by rfl) (c_Pairs w₀ ht10 _ sb sa 0 0 gb ga lb la ((hgb _).mono hr_h5q2) ((ra _).mono hr_h5q2)) fun x6q2 h6q2 hx6q2 => ?_
  obtain ⟨qv, rfl, hqv, hcq, hs6⟩ := hx6q2
  rw [eQ] at hqv ⊢
  have hlqv := hqv.live
  have hs_h6q2 : Sub h h6q2 := Sub.trans (by repeat (first | exact Sub.refl _ | assumption | refine Sub.trans_set ?_ (by assumption))) hs6
  have hr_h6q2 : Sub h5q2 h6q2 := Sub.trans (by repeat (first | exact Sub.refl _ | assumption | refine Sub.trans_set ?_ (by assumption))) hs6
  have eb_0q0 := hs6 k0q0 _ (by repeat (first | exact AHeap.set_same _ _ _ | assumption | refine (AHeap.set_ne _ _ (by first | assumption | exact Ne.symm (by assumption))).trans ?_))
  have eb_1q2 := hs6 k1q2 _ (by repeat (first | exact AHeap.set_same _ _ _ | assumption | refine (AHeap.set_ne _ _ (by first | assumption | exact Ne.symm (by assumption))).trans ?_))
  have eb_2q2 := hs6 k2q2 _ (by repeat (first | exact AHeap.set_same _ _ _ | assumption | refine (AHeap.set_ne _ _ (by first | assumption | exact Ne.symm (by assumption))).trans ?_))
  have eb_3q7 := hs6 k3q7 _ (by repeat (first | exact AHeap.set_same _ _ _ | assumption | refine (AHeap.set_ne _ _ (by first | assumption | exact Ne.symm (by assumption))).trans ?_))
  have eb_4q7 := hs6 k4q7 _ (by repeat (first | exact AHeap.set_same _ _ _ | assumption | refine (AHeap.set_ne _ _ (by first | assumption | exact Ne.symm (by assumption))).trans ?_))
  simp (decide := true) only [aOps_nil, ev, putD, Slots.put, Slots.get, Slots.keep, if_true, if_false, true_and, ↓ap_move, pop_move, ↓ap_extract, pop_extract, pExt_tuple, List.length_cons, List.length_nil, List.getD_cons_zero, List.getD_cons_succ, ↓ap_assign, pop_assign, List.getD_cons_zero, List.getD_cons_succ, Nat.zero_add, Nat.reduceAdd]
  apply hK; clear hK K
  refine awp_seq ?_
  have hpv6 : IsL w₀ h6q2 2 pv (P.map pairC) := hpv.mono hr_h6q2
  have hqv6 : IsL w₀ h6q2 2 qv (Q.map pairC) := hqv
  have lp := pr_len hpv6
  have lq := pr_len hqv6
  -- region 7  law.go:167
  refine awp_rseq [11, 13, 60] (by rfl) fun K hK => ?_
  simp (decide := true) only [aOps_nil, ev, absV, absS, putD, Slots.put, Slots.get, Slots.keep, if_true, if_false, true_and, ↓ap_move, pop_move, ↓ap_binOp, pop_binOp, isNilC_int, cond_false, pBinX_int, pI_neq, ↓ag_move, agP, agQ_some, nthDst, gKnown_bool, guardB_bool_false, implies_true, decide_true, Bool.not_false, Bool.not_true, condV_true, Bool.and_true, ↓ag_binOp, ↓ap_pick, pop_pick, pPick_bool, pickV_and, ↓ag_len, pop_len, isNilC_tmp, Bool.and_true, lp, lq, hPQ]
  apply hK; clear hK K
  refine awp_cond (b := _) rfl (fun hb1 => ?_) (fun hb1 => ?_)
  · exact absurd hb1 (by simp)
  · try simp only at hb1
    refine awp_skip ?_
    change Awp _ _ _ _ _ _ _
    refine awp_seq ?_
    -- region 9  law.go:170
    refine awp_rseq [11, 13, 15] (by rfl) fun K hK => ?_
    simp (decide := true) only [aOps_nil, ev, absV, absS, putD, Slots.put, Slots.keep, if_true, if_false, true_and, ↓ap_assign, pop_assign]
    apply hK; clear hK K
    refine awp_block ?_
    refine awp_loopG [11, 13, 15] (fun j : Nat => [(11, pv), (13, qv), (15, .int .i64 j)]) (fun j : Nat => h6q2) (fun j : Nat => j ≤ P.length) (fun j : Nat => P.length - j) 0 (by rfl) (Sub.refl _) (Nat.zero_le _) ?_
    rintro j hj
    refine awp_seq ?_
    -- region 10  law.go:170
    refine awp_rseq [11, 13, 15, 64] (by rfl) fun K hK => ?_
    simp (decide := true) only [aOps_nil, ev, putD, Slots.put, Slots.get, Slots.keep, if_true, if_false, true_and, ↓ap_move, pop_move, ↓ap_len, pop_len, ↓ap_binOp, pop_binOp, isNilC_tmp, cond_false, pBinX_int, pI_lss, lp]
    apply hK; clear hK K
    refine awp_cond (b := _) rfl (fun hb2 => ?_) (fun hb2 => ?_)
    · try simp only [decide_eq_true_eq] at hb2
      have hj' : j < P.length := by omega
      obtain ⟨lp1, op1, cp1, rfl⟩ := pr_open hpv6 (by omega)
      obtain ⟨lq1, oq1, cq1, rfl⟩ := pr_open hqv6 (by omega)
      obtain ⟨z, hz⟩ : ∃ z, P.getD j default = z := ⟨_, rfl⟩
      have ep := pr_elem hpv6 hj'
      rw [hz] at ep
      obtain ⟨-, ep1, ep2⟩ := ep
      have hzm : z ∈ P := by rw [← hz, List.getD, List.getElem?_eq_getElem hj']; exact List.getElem_mem hj'
      obtain ⟨q, hq⟩ : ∃ q : Int × Int → Bool, q = fun m => decide (m.1 = z.2) && decide (m.2 = z.1) := ⟨_, rfl⟩
      have hone : (Q.filter q).length = 1 := by
       rw [hP] at hzm
       rw [hQ, hq]
       exact swap_once (paths_asc _ _ _) (paths_asc _ _ _) hzm
      refine awp_skip ?_
      change Awp _ _ _ _ _ _ _
      refine awp_seq ?_
      refine awp_block ?_
      -- region 12  law.go:171
      refine awp_rseq [11, 13, 15, 16] (by rfl) fun K hK => ?_
      simp (decide := true) only [aOps_nil, ev, absV, absS, putD, Slots.put, Slots.keep, if_true, if_false, true_and, ↓ap_assign, pop_assign]
      apply hK; clear hK K
      refine awp_seq ?_
      -- region 13  law.go:172
      refine awp_rseq [11, 13, 15, 16, 17] (by rfl) fun K hK => ?_
      simp (decide := true) only [aOps_nil, ev, absV, absS, putD, Slots.put, Slots.keep, if_true, if_false, true_and, ↓ap_assign, pop_assign]
      apply hK; clear hK K
      refine awp_block ?_
      refine awp_loopG [11, 13, 15, 16, 17] (fun k : Nat => [(11, .slice lp1 op1 P.length cp1), (13, .slice lq1 oq1 Q.length cq1), (15, .int .i64 j), (16, .int .i64 ((Q.take k).filter q).length), (17, .int .i64 k)]) (fun k : Nat => h6q2) (fun k : Nat => k ≤ Q.length) (fun k : Nat => Q.length - k) 0 (by rfl) (Sub.refl _) (Nat.zero_le _) ?_
      rintro k hk
      refine awp_seq ?_
      -- region 14  law.go:172
      refine awp_rseq [11, 13, 15, 16, 17, 70] (by rfl) fun K hK => ?_
      simp (decide := true) only [aOps_nil, ev, putD, Slots.put, Slots.get, Slots.keep, if_true, if_false, true_and, ↓ap_move, pop_move, ↓ap_len, pop_len, pLen_slice Tryd.underlying30, ↓ap_binOp, pop_binOp, isNilC_tmp, cond_false, pBinX_int, pI_lss]
      apply hK; clear hK K
      refine awp_cond (b := _) rfl (fun hb3 => ?_) (fun hb3 => ?_)
      · try simp only [decide_eq_true_eq] at hb3
        have hk' : k < Q.length := by omega
        obtain ⟨m, hm⟩ : ∃ m, Q.getD k default = m := ⟨_, rfl⟩
        have eq := pr_elem hqv6 hk'
        rw [hm] at eq
        obtain ⟨-, eq1, eq2⟩ := eq
        have hqm : q m = (decide (m.1 = z.2) && decide (m.2 = z.1)) := by rw [hq]
        have hnext := filter_getD (q := q) Q k hk'
        rw [hm] at hnext
        obtain ⟨n, hn⟩ : ∃ n, n = ((Q.take k).filter q).length := ⟨_, rfl⟩
        have hnj : n ≤ k := by rw [hn]; exact filter_le q Q k
        rw [← hn] at hnext ⊢
        refine awp_skip ?_
        change Awp _ _ _ _ _ _ _
        refine awp_seq ?_
        refine awp_block ?_
        -- region 16  law.go:173
        refine awp_dseq_all [11, 13, 15, 16, 17, 96] mixed (by kernel_rfl) (by rfl) (by rfl) fun K hK => ?_
        simp (decide := true) only [aOps_nil, ev, absV, absS, putD, Slots.put, Slots.get, Slots.keep, if_true, if_false, true_and, ↓ap_move, pop_move, ↓ap_indexAddrL, apL_mk, pIndexAddr_slice Tryd.underlying30 sz37, pIndexAddr_ptr Tryd.underlying37 sz3, ↓ap_loadL, pLoad_one ag3, ↓ap_binOp, pop_binOp, isNilC_tmp, cond_false, pBinX_int, pI_eql, ↓ag_move, agP, agQ_some, nthDst, gKnown_bool, guardB_bool_true, implies_true, ↓ag_indexAddrL, agQL_some, agL_mk, agL_il1, agL_ir1, ↓ag_loadL, agL_ld1, ↓ag_binOp, cv_binl, cv_binr, cp_binl, cp_binr, ↓ap_pick, pop_pick, pPick_bool, pickV_cond_l, pickV_and, lv_int, ep1, ep2, eq1, eq2, Int.toNat_natCast, Int.toNat_zero, Int.toNat_one, Nat.zero_mul, Nat.one_mul, Nat.add_zero]
        repeat (with_reducible refine And.intro ?_ ?_; · first | trivial | omega | (intro hg; simp only [Bool.and_eq_true, Bool.or_eq_true, Bool.not_eq_true', Bool.and_eq_false_iff, Bool.or_eq_false_iff, Bool.not_eq_false', decide_eq_true_eq, decide_eq_false_iff_not, eqNil] at hg; omega) )
        apply hK; clear hK K
        refine awp_cond (b := _) rfl (fun hb4 => ?_) (fun hb4 => ?_)
        · try simp only [decide_eq_true_eq, Bool.and_eq_true] at hb4
          have hqt : q m = true := by rw [hqm]; simp; exact hb4
          rw [if_pos hqt] at hnext
          -- region 17  law.go:174
          refine awp_r [11, 13, 15, 16, 17] (by rfl) ?_
          simp (decide := true) only [aOps_nil, ev, absV, absS, putD, Slots.put, Slots.get, Slots.keep, if_true, if_false, true_and, ↓ap_move, pop_move, ↓ap_binOp, pop_binOp, isNilC_int, cond_false, pBinX_int, pI_add, ↓ap_assign, pop_assign]
          try simp (disch := omega) only [wrap_i64]
          change Awp _ _ _ _ _ _ _
          -- region 15  law.go:172
          refine awp_r [11, 13, 15, 16, 17] (by rfl) ?_
          simp (decide := true) only [aOps_nil, ev, absV, absS, putD, Slots.put, Slots.get, Slots.keep, if_true, if_false, true_and, ↓ap_move, pop_move, ↓ap_binOp, pop_binOp, isNilC_int, cond_false, pBinX_int, pI_add, ↓ap_assign, pop_assign]
          try simp (disch := omega) only [wrap_i64]
          try simp only [thenA_normal]
          refine ⟨k + 1, ?_, Sub.refl _, hk', by omega⟩
          rw [hnext]
          rfl
        · try simp only [decide_eq_false_iff_not, Bool.and_eq_false_iff] at hb4
          have hqf : ¬ q m = true := by rw [hqm]; simp; omega
          rw [if_neg hqf, Nat.add_zero] at hnext
          refine awp_skip ?_
          change Awp _ _ _ _ _ _ _
          -- region 15  law.go:172
          refine awp_r [11, 13, 15, 16, 17] (by rfl) ?_
          simp (decide := true) only [aOps_nil, ev, absV, absS, putD, Slots.put, Slots.get, Slots.keep, if_true, if_false, true_and, ↓ap_move, pop_move, ↓ap_binOp, pop_binOp, isNilC_int, cond_false, pBinX_int, pI_add, ↓ap_assign, pop_assign]
          try simp (disch := omega) only [wrap_i64]
          try simp only [thenA_normal]
          refine ⟨k + 1, ?_, Sub.refl _, hk', by omega⟩
          rw [hnext]
          rfl
      · try simp only [decide_eq_false_iff_not] at hb3
        obtain rfl : k = Q.length := by omega
        rw [List.take_of_length_le (Nat.le_refl _), hone]
        refine awp_exit ?_
        change Awp _ _ _ _ _ _ _
        -- region 18  law.go:177
        refine awp_rseq [11, 13, 15, 100] (by rfl) fun K hK => ?_
        simp (decide := true) only [aOps_nil, ev, absV, absS, putD, Slots.put, Slots.get, Slots.keep, if_true, if_false, true_and, ↓ap_move, pop_move, ↓ap_binOp, pop_binOp, isNilC_int, cond_false, pBinX_int, pI_neq]
        apply hK; clear hK K
        refine awp_cond (b := _) rfl (fun hb5 => ?_) (fun hb5 => ?_)
        · exact absurd hb5 (by simp)
        · try simp only [decide_eq_true_eq, Bool.not_eq_false'] at hb5
          refine awp_skip ?_
          change Awp _ _ _ _ _ _ _
          -- region 11  law.go:170
          refine awp_r [11, 13, 15] (by rfl) ?_
          simp (decide := true) only [aOps_nil, ev, absV, absS, putD, Slots.put, Slots.get, Slots.keep, if_true, if_false, true_and, ↓ap_move, pop_move, ↓ap_binOp, pop_binOp, isNilC_int, cond_false, pBinX_int, pI_add, ↓ap_assign, pop_assign]
          try simp (disch := omega) only [wrap_i64]
          try simp only [thenA_normal]
          exact ⟨j + 1, rfl, Sub.refl _, hj', by omega⟩
    · try simp only [decide_eq_false_iff_not] at hb2
      refine awp_exit ?_
      change Awp _ _ _ _ _ _ _
      -- region 20  law.go:181
      refine awp_rseq [6] (by rfl) fun K hK => ?_
      refine aOps_callV (V := .bool true) (by rfl) (by rfl) (c_lives w₀ ht10 _) ?_
      simp (decide := true) only [aOps_nil, ev, putD, Slots.put, Slots.get, Slots.keep, if_true, if_false, true_and, ↓ap_assign, pop_assign]
      apply hK; clear hK K
      refine awp_ret ?_
      refine retA_ret h (by repeat (first | exact Sub.refl _ | assumption | refine Sub.trans_set ?_ (by assumption))) (resPre_tmp (resPre_nil)) ?_
      simp (decide := true) only [Slots.get, if_true, and_true, resOf_one]
      all_goals first | rfl | exact ⟨rfl, rfl⟩ | (simp (decide := true) only [if_true, if_false, *]; done) | (trace_state; fail)
end Go.Proofs.YtgnebodlkfblcaaDoor

/-
  The law PairsPath.
  Conditions: none.
-/
namespace Go.Proofs.YtgnebodlkfblcaaDoor
open Go.AM
open Go.Proofs
open Go.Col
open Go.Prs
set_option maxRecDepth 100000
theorem path_cap {w₀ : World} {h : AHeap} {v : AVal} {p : List Str} (hv : IsL w₀ h 1 v (p.map strC)) (hc : capL v = v) : pCap Tryd.prog 48 v = ⟨True, .int .i64 p.length⟩ := by
  have := hv.cap Tryd.underlying48
  rwa [List.length_map, hc] at this

set_option maxHeartbeats 4000000 in
theorem l_PairsPath (w₀ : World) (ht10 : Tab10 w₀) (h : AHeap) (v0 : AVal) (c0 : List EntryP) (hm0 : IsL w₀ h 4 v0 (c0.map entC)) (hl0 : c0.length ≤ 9223372036854775807) (hk0 : ∀ e ∈ c0, EntOk e) (a1 : UInt8) (n2 : Int) (hn2 : -9223372036854775808 ≤ n2) (hn2' : n2 ≤ 9223372036854775807) :
    ACall Tryd.prog w₀ 6 [v0, .int .u8 a1.toNat, .int .i64 n2] h (fun x _ => x = .bool true) := by
  refine ACall.mono (R := fun x h' => x = .bool true ∧ h' = h) ?_ fun x h' hx => hx.1
  have hlv0 := hm0.live
  have ha1 : a1.toNat < 256 := a1.toNat_lt
  refine acall_intro (n := 94) (rs := [.tmp 6]) Tryd.func6 rfl rfl rfl rfl (Nat.le_of_ble_eq_true rfl) ?_
  simp only [initSlots]
  -- region 0  law.go:219
  refine awp_rseq [0, 1, 2] (by rfl) fun K hK => ?_
  simp (decide := true) only [aOps_nil, ev, absV, absS, putD, Slots.put, Slots.keep, if_true, if_false, true_and, ↓ap_assign, pop_assign, Nat.zero_add, Nat.reduceAdd]
  apply hK; clear hK K
  -- region 1  law.go:220
  refine awp_rseq [1, 2, 7] (by rfl) fun K hK => ?_
  simp (decide := true) only [ev, putD, Slots.put, Slots.get, if_true, if_false, true_and, ↓ap_move, pop_move]
  refine aOps_call (by rfl) (by rfl) (c_Of w₀ _ v0 c0 (hm0.mono (by repeat (first | exact Sub.refl _ | assumption | refine Sub.set_both ?_ _ _ | refine Sub.trans_set ?_ (by repeat (first | assumption | refine (AHeap.set_ne _ _ (by first | assumption | exact Ne.symm (by assumption))).trans ?_))))) hk0 hl0) fun x1q1 h1q1 hx1q1 => ?_
  obtain ⟨sa, la, rfl, hia, hga, hsc, hs1⟩ := of_rec (w₀ := w₀) hx1q1
  have hlsa := (hga 0).row.live
  have hlla : la.length ≤ 21 := by rw [← items_len, hia, of_len]; omega
  have hs_h1q1 : Sub h h1q1 := Sub.trans (by repeat (first | exact Sub.refl _ | assumption | refine Sub.trans_set ?_ (by assumption))) hs1
  have hr_h1q1 := hs_h1q1
  refine aOps_alloc ze27 (cs := [.nilSlice, .int .i64 0]) (by rfl) fun k1q2 hk1q2 => ?_
  have hn_1q2 : h1q1 k1q2 = none := by first | assumption | (simp only [AHeap.set_none] at hk1q2; simp only [hk1q2])
  have hf_1q2 : h k1q2 = none := Sub.none hs_h1q1 hn_1q2
  refine aOps_store (by rfl) (by rfl) (by repeat (first | exact AHeap.set_same _ _ _ | assumption | refine (AHeap.set_ne _ _ (by first | assumption | exact Ne.symm (by assumption))).trans ?_)) sz27 (by rfl) (by rfl) (by first | exact Nat.le_refl _ | decide | (simp; done) | (simp; omega)) (Nat.zero_le _) (by first | rfl | (simp (decide := true) only [ev, putD, Slots.put, Slots.get, if_true, if_false, AVal.cells, allScal, Bool.and_true, hsc, sc_int])) ?_
  simp only [AHeap.set_set, AVal.cells]
  simp (decide := true) only [aOps_nil, ev, putD, Slots.put, Slots.get, Slots.keep, if_true, if_false, setAt, List.set_cons_zero, List.set_cons_succ, Nat.zero_add]
  apply hK; clear hK K
  have hina := items_len la
  have hla0 : 0 < la.length := by rw [← hina, hia, of_len]; omega
  obtain ⟨ga, hga'⟩ : ∃ g, g = groupE (items la) a1.toNat := ⟨_, rfl⟩
  have hca : checkE (items la) (ga : Int) = 0 := by rw [hga', hia]; exact (of_check c0 _).1
  have hGa : Prs.Good (items la) := by rw [hia]; exact of_good c0
  have hra := (hga 0).row
  have nl := it_len hra
  -- region 2  law.go:221
  refine awp_rseq [2, 7, 8] (by rfl) fun K hK => ?_
  simp (decide := true) only [ev, putD, Slots.put, Slots.get, if_true, if_false, true_and, ↓ap_fieldAddr, pop_fieldAddr, fa27_0, ↓ap_loadL, apL_mk, pLoad_one ag25, ↓ap_move, pop_move, rd_any, List.getD_cons_zero, Nat.zero_add, hlsa]
  refine aOps_callV (V := .int .i64 ga) (by rfl) (by rfl) (by rw [hga']; exact c_group w₀ _ sa a1.toNat la (hra.mono (by repeat (first | exact Sub.refl _ | assumption | refine Sub.set_both ?_ _ _ | refine Sub.trans_set ?_ (by repeat (first | assumption | refine (AHeap.set_ne _ _ (by first | assumption | exact Ne.symm (by assumption))).trans ?_))))) ha1 hla0 (by rw [hia]; exact of_top c0) (by omega)) ?_
  simp (decide := true) only [aOps_nil, ev, putD, Slots.put, Slots.get, Slots.keep, if_true, if_false, true_and, ↓ap_assign, pop_assign]
  apply hK; clear hK K
  -- region 3  law.go:222
  refine awp_rseq [2, 7, 8, 9] (by rfl) fun K hK => ?_
  simp (decide := true) only [aOps_nil, ev, putD, Slots.put, Slots.get, Slots.keep, if_true, if_false, true_and, ↓ap_move, pop_move, ↓ap_assign, pop_assign]
  apply hK; clear hK K
  refine awp_seq ?_
  -- region 4  law.go:223
  refine awp_rseq [2, 7, 8, 9, 23] (by rfl) fun K hK => ?_
  simp (decide := true) only [aOps_nil, ev, absV, absS, putD, Slots.put, Slots.get, Slots.keep, if_true, if_false, true_and, ↓ap_move, pop_move, ↓ap_binOp, pop_binOp, isNilC_int, cond_false, pBinX_int, pI_gtr]
  apply hK; clear hK K
  refine awp_joinT [7, 8, 9] (fun (k : Int) => [(7, .ptr (.own k1q2) 0), (8, .int .i64 ga), (9, .int .i64 k)]) (fun (k : Int) => h1q1.set k1q2 ⟨[sa, .int .i64 0], 0⟩) (fun (k : Int) => True) ?_ ?_
  · refine awp_cond (b := _) rfl (fun hb1 => ?_) (fun hb1 => ?_)
    · try simp only [decide_eq_true_eq] at hb1
      -- region 5  law.go:224
      refine awp_r [7, 8, 9] (by rfl) ?_
      simp (decide := true) only [aOps_nil, ev, putD, Slots.put, Slots.get, Slots.keep, if_true, if_false, true_and, and_true, ↓ap_move, pop_move, ↓ap_fieldAddr, pop_fieldAddr, fa27_0, ↓ap_loadL, apL_mk, pLoad_one ag25, ↓ap_len, pop_len, ↓ap_binOp, pop_binOp, isNilC_tmp, cond_false, pBinX_int, pI_rem, ↓ap_assign, pop_assign, ne_eq, rd_any, List.getD_cons_zero, Nat.zero_add, hlsa, nl]
      repeat (with_reducible refine And.intro ?_ ?_; · first | trivial | omega | (intro hg; simp only [Bool.and_eq_true, Bool.or_eq_true, Bool.not_eq_true', Bool.and_eq_false_iff, Bool.or_eq_false_iff, Bool.not_eq_false', decide_eq_true_eq, decide_eq_false_iff_not, eqNil] at hg; omega) )
      try simp only [thenA_normal]
      first | exact ⟨_, rfl, Sub.refl _⟩ | exact ⟨_, rfl, Sub.refl _, trivial⟩
    · try simp only [decide_eq_false_iff_not] at hb1
      refine awp_skip ?_
      try simp only [thenA_normal]
      first | exact ⟨_, rfl, Sub.refl _⟩ | exact ⟨_, rfl, Sub.refl _, trivial⟩
  · rintro k -
    -- region 6  law.go:226
    refine awp_rseq [7, 8, 9, 10, 11] (by rfl) fun K hK => ?_
    simp (decide := true) only [ev, absV, absS, putD, Slots.put, Slots.get, if_true, if_false, true_and, ↓ap_loadL, apL_mk, pLoad_agg ag27 sz27, ↓ap_move, pop_move, ↓ap_build, ↓pop_buildL, bld35_0_1, evP, List.map_cons, List.map_nil, rd_any, cellsAt, List.getD_cons_zero, List.getD_cons_succ, Nat.zero_add, lv_int, allLive, Bool.and_true, hlsa]
    refine aOps_call (by rfl) (by rfl) (c_Path w₀ _ sa 0 ga k la (hra.mono (by repeat (first | exact Sub.refl _ | assumption | refine Sub.set_both ?_ _ _ | refine Sub.trans_set ?_ (by repeat (first | assumption | refine (AHeap.set_ne _ _ (by first | assumption | exact Ne.symm (by assumption))).trans ?_))))) (by omega)) fun x6q4 h6q4 hx6q4 => ?_
    obtain ⟨pv, rfl, hpv, hcp, hs6⟩ := hx6q4
    obtain ⟨R, hR⟩ : ∃ R, R = pathR (items la) ga k := ⟨_, rfl⟩
    rw [← hR] at hpv ⊢
    have hlpv := hpv.live
    have lp := path_len hpv
    have cp := path_cap hpv hcp
    have hs_h6q4 : Sub h h6q4 := Sub.trans (by repeat (first | exact Sub.refl _ | assumption | refine Sub.trans_set ?_ (by assumption))) hs6
    have hr_h6q4 : Sub h1q1 h6q4 := Sub.trans (by repeat (first | exact Sub.refl _ | assumption | refine Sub.trans_set ?_ (by assumption))) hs6
    have eb_1q2 := hs6 k1q2 _ (by repeat (first | exact AHeap.set_same _ _ _ | assumption | refine (AHeap.set_ne _ _ (by first | assumption | exact Ne.symm (by assumption))).trans ?_))
    simp (decide := true) only [aOps_nil, ev, putD, Slots.put, Slots.get, Slots.keep, if_true, if_false, true_and, ↓ap_move, pop_move, ↓ap_extract, pop_extract, pExt_tuple, List.length_cons, List.length_nil, List.getD_cons_zero, List.getD_cons_succ, ↓ap_assign, pop_assign, List.getD_cons_zero, List.getD_cons_succ, Nat.zero_add, Nat.reduceAdd]
    apply hK; clear hK K
    refine awp_seq ?_
    -- region 7  law.go:227
    refine awp_rseq [7, 8, 9, 10, 11, 45] (by rfl) fun K hK => ?_
    simp (decide := true) only [aOps_nil, ev, absV, absS, putD, Slots.put, Slots.get, Slots.keep, if_true, if_false, true_and, ↓ap_move, pop_move, ↓ap_binOp, pop_binOp, isNilC_int, cond_false, pBinX_int, pI_lss, ↓ag_move, agP, agQ_some, nthDst, gKnown_bool, guardB_bool_false, implies_true, ↓ag_fieldAddr, pop_fieldAddr, fa27_0, ↓ag_loadL, agQL_some, agL_mk, agL_ld2, pLoad_one ag25, ↓ag_len, pop_len, cv_len, cp_len, ↓ag_binOp, isNilC_tmp, cv_binl, cv_binr, cp_binl, cp_binr, pI_geq, ↓ap_pick, pop_pick, pPick_bool, pickV_cond_r, pickV_or, rd_own w₀ eb_1q2, List.getD_cons_zero, Nat.zero_add, hlsa, nl]
    apply hK; clear hK K
    refine awp_cond (b := _) rfl (fun hb2 => ?_) (fun hb2 => ?_)
    · try simp only [decide_eq_true_eq, Bool.or_eq_true] at hb2
      have hRv : R = ([], 1) := by
       rw [hR]
       unfold pathR
       rw [if_neg (by rw [hca]; simp), if_pos (by rw [hina]; omega)]
      subst hRv
      -- region 8  law.go:228
      refine awp_rseq [6] (by rfl) fun K hK => ?_
      simp (decide := true) only [ev, absV, absS, putD, Slots.put, Slots.get, if_true, if_false, true_and, ↓ap_move, pop_move, ↓ap_binOp, pop_binOp, isNilC_int, cond_false, pBinX_int, pI_eql, ↓ag_move, agP, agQ_some, nthDst, gKnown_bool, guardB_bool_true, implies_true, decide_true, condV_true, Bool.and_true, ↓ag_len, pop_len, ↓ag_binOp, ↓ap_pick, pop_pick, pPick_bool, pickV_and, Bool.and_true, lp]
      (refine aOps_yes (by rfl) ?_; refine aOps_callV (V := .bool true) (by rfl) (by rfl) (c_lives w₀ ht10 _) ?_)
      simp (decide := true) only [aOps_nil, ev, absV, absS, putD, Slots.put, Slots.get, Slots.keep, if_true, if_false, true_and, ↓ap_pick, pop_pick, pPick_bool, pickV_and, ↓ap_assign, pop_assign, Bool.and_true]
      apply hK; clear hK K
      refine awp_ret ?_
      try simp only [thenA_ret]
      refine retA_ret h (by repeat (first | exact Sub.refl _ | assumption | refine Sub.trans_set ?_ (by assumption))) (resPre_tmp (resPre_nil)) ?_
      simp (decide := true) only [Slots.get, if_true, and_true, resOf_one]
      all_goals first | rfl | exact ⟨rfl, rfl⟩ | (simp (decide := true) only [if_true, if_false, *]; done) | (trace_state; fail)
    · try simp only [decide_eq_false_iff_not, Bool.or_eq_false_iff] at hb2
      obtain ⟨i, rfl⟩ : ∃ i : Nat, k = i := ⟨k.toNat, by omega⟩
      have hi : i < la.length := by omega
      have hnm := (names_law hca (i := i) (by omega)).1
      have hRl : R = (match lookA (i : Int) (pathsE (items la) ga false) with | none => ([], 7) | some p => (p, 0)) := by
       rw [hR]
       unfold pathR
       rw [if_neg (by rw [hca]; simp), if_neg (by rw [hina]; omega)]
       try (cases lookA (i : Int) (pathsE (items la) ga false) <;> rfl)
      have hra6 := hra.mono hr_h6q4
      refine awp_skip ?_
      change Awp _ _ _ _ _ _ _
      -- region 9  law.go:230
      refine awp_rseq [10, 11, 12, 13] (by rfl) fun K hK => ?_
      simp (decide := true) only [ev, putD, Slots.put, Slots.get, if_true, if_false, true_and, ↓ap_fieldAddr, pop_fieldAddr, fa27_0, ↓ap_loadL, apL_mk, pLoad_one ag25, ↓ap_move, pop_move, rd_own w₀ eb_1q2, List.getD_cons_zero, Nat.zero_add, hlsa]
      refine aOps_call (by rfl) (by rfl) (c_pathL w₀ _ sa ga i la hra6 hGa hi (by omega)) fun x9q4 h9q4 hx9q4 => ?_
      obtain ⟨nv, rfl, hnv0, hs9⟩ := hx9q4
      have hnv := hnv0.mono (offH_sub _ _)
      have hlnv := hnv.live
      have hs_h9q4 : Sub h h9q4 := Sub.trans (by repeat (first | exact Sub.refl _ | assumption | refine Sub.trans_set ?_ (by assumption))) hs9
      have hr_h9q4 : Sub h6q4 h9q4 := Sub.trans (by repeat (first | exact Sub.refl _ | assumption | refine Sub.trans_set ?_ (by assumption))) hs9
      have eb_1q2 := hs9 k1q2 _ (by repeat (first | exact AHeap.set_same _ _ _ | assumption | refine (AHeap.set_ne _ _ (by first | assumption | exact Ne.symm (by assumption))).trans ?_))
      simp (decide := true) only [aOps_nil, ev, putD, Slots.put, Slots.get, Slots.keep, if_true, if_false, true_and, ↓ap_move, pop_move, ↓ap_extract, pop_extract, pExt_tuple, List.length_cons, List.length_nil, List.getD_cons_zero, List.getD_cons_succ, ↓ap_assign, pop_assign, List.getD_cons_zero, List.getD_cons_succ, Nat.zero_add, Nat.reduceAdd]
      apply hK; clear hK K
      refine awp_seq ?_
      -- region 10  law.go:231
      refine awp_rseq [10, 11, 12, 66] (by rfl) fun K hK => ?_
      simp (decide := true) only [aOps_nil, ev, putD, Slots.put, Slots.get, Slots.keep, if_true, if_false, true_and, ↓ap_move, pop_move, ↓ap_unOp, pop_unOp, pU_not]
      apply hK; clear hK K
      refine awp_cond (b := _) rfl (fun hb3 => ?_) (fun hb3 => ?_)
      · try simp only [Bool.not_eq_true'] at hb3
        rw [hb3] at hnm
        have hRv : R = ([], 7) := by rw [hRl, hnm]; rfl
        subst hRv
        -- region 11  law.go:232
        refine awp_rseq [6] (by rfl) fun K hK => ?_
        simp (decide := true) only [ev, absV, absS, putD, Slots.put, Slots.get, if_true, if_false, true_and, ↓ap_move, pop_move, ↓ap_binOp, pop_binOp, isNilC_int, cond_false, pBinX_int, pI_eql, ↓ag_move, agP, agQ_some, nthDst, gKnown_bool, guardB_bool_true, implies_true, decide_true, condV_true, Bool.and_true, ↓ag_len, pop_len, ↓ag_binOp, ↓ap_pick, pop_pick, pPick_bool, pickV_and, Bool.and_true, lp]
        (refine aOps_yes (by rfl) ?_; refine aOps_callV (V := .bool true) (by rfl) (by rfl) (c_lives w₀ ht10 _) ?_)
        simp (decide := true) only [aOps_nil, ev, absV, absS, putD, Slots.put, Slots.get, Slots.keep, if_true, if_false, true_and, ↓ap_pick, pop_pick, pPick_bool, pickV_and, ↓ap_assign, pop_assign, Bool.and_true]
        apply hK; clear hK K
        refine awp_ret ?_
        try simp only [thenA_ret]
        refine retA_ret h (by repeat (first | exact Sub.refl _ | assumption | refine Sub.trans_set ?_ (by assumption))) (resPre_tmp (resPre_nil)) ?_
        simp (decide := true) only [Slots.get, if_true, and_true, resOf_one]
        all_goals first | rfl | exact ⟨rfl, rfl⟩ | (simp (decide := true) only [if_true, if_false, *]; done) | (trace_state; fail)
      · try simp only [Bool.not_eq_false'] at hb3
        rw [hb3] at hnm
        rw [if_pos rfl] at hnm
        have hRv : R = (namesE (items la) ga i, 0) := by rw [hRl, hnm]
        have hmem := paths_short (lookA_mem hnm)
        subst hRv
        refine awp_skip ?_
        change Awp _ _ _ _ _ _ _
        -- region 12  law.go:234
        refine awp_rseq [6] (by rfl) fun K hK => ?_
        simp (decide := true) only [ev, absV, absS, putD, Slots.put, Slots.get, if_true, if_false, true_and, ↓ap_move, pop_move, ↓ap_binOp, pop_binOp, isNilC_int, cond_false, pBinX_int, pI_eql, ↓ag_move, agP, agQ_some, nthDst, gKnown_bool, guardB_bool_true, implies_true, decide_true, condV_true]
        (refine aOps_yes (by rfl) ?_; refine aOps_callV (V := .bool (decide (namesE (items la) ga i = namesE (items la) ga i))) (by rfl) (by rfl) (c_sameL w₀ _ pv nv _ _ (hpv.mono hr_h9q4) hnv (by simp only at hmem ⊢; omega)) ?_)
        simp (decide := true) only [ev, absV, absS, putD, Slots.put, Slots.get, if_true, if_false, true_and, nthDst, guardB_bool_true, ↓ap_pick, pop_pick, pPick_bool, pickV_and, ↓ap_move, pop_move, ↓ag_move, agP, agQ_some, gKnown_bool, implies_true, decide_true, condV_true, Bool.and_true, ↓ag_cap, pop_cap, ↓ag_len, pop_len, ↓ag_binOp, pop_binOp, isNilC_tmp, cond_false, pBinX_int, pI_eql, Bool.and_true, lp, cp]
        (refine aOps_yes (by rfl) ?_; refine aOps_callV (V := .bool true) (by rfl) (by rfl) (c_lives w₀ ht10 _) ?_)
        simp (decide := true) only [aOps_nil, ev, absV, absS, putD, Slots.put, Slots.get, Slots.keep, if_true, if_false, true_and, ↓ap_pick, pop_pick, pPick_bool, pickV_and, ↓ap_assign, pop_assign, Bool.and_true]
        apply hK; clear hK K
        refine awp_ret ?_
        refine retA_ret h (by repeat (first | exact Sub.refl _ | assumption | refine Sub.trans_set ?_ (by assumption))) (resPre_tmp (resPre_nil)) ?_
        simp (decide := true) only [Slots.get, if_true, and_true, resOf_one]
        all_goals first | rfl | exact ⟨rfl, rfl⟩ | (simp (decide := true) only [if_true, if_false, *]; done) | (trace_state; fail)
end Go.Proofs.YtgnebodlkfblcaaDoor

