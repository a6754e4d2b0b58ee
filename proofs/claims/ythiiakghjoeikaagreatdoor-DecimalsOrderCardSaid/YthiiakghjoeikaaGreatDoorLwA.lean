/-
  Contracts of the statements' functions: a number from plain data.
  Conditions: none.
-/
import Derived.Test.YthiiakghjoeikaaGreatDoorDcI
import Derived.Lib.SmallJoins
import Derived.Lib.AppendIntMem
set_option linter.unusedSimpArgs false
set_option linter.unnecessarySimpa false
set_option linter.unusedVariables false
namespace Go.Proofs.YthiiakghjoeikaaGreatDoor
open Go.AM
open Go.Proofs
open Go.Dec
open Go.Lib (decDigits)
set_option maxRecDepth 100000

/-- Go's table of the powers of ten lies as its initialiser lays it. -/
abbrev Tab10 (w : World) : Prop := Lib.TabIs Tryz.prog w "internal/strconv.uint64pow10" .u64 Lib.pow10Tab
theorem Tab10.later {w w' : World} (h : Tab10 w) (hb : Go.RowKit.Below w.heap.size w w') : Tab10 w' := Go.Joins.tab_stays (g := 0) (by kernel_rfl) h hb (Nat.le_refl _)
theorem c_itoa (w₀ : World) (ht : Tab10 w₀) (h : AHeap) (n : Int) (h0 : -9223372036854775808 ≤ n) (h1 : n ≤ 9223372036854775807) :
    ACall Tryz.prog w₀ 40 [.int .i64 n] h (fun v h' => v = .str (Lib.itoa n) ∧ h' = h) := by
  refine acall_of_callsB (vals := [.int .i64 n]) (val := .string ⟨(Lib.itoa n).toArray⟩) Tryz.func40 rfl rfl (fun φ vs hv => VRs_i hv) (fun φ => rfl) fun w hb => ?_
  refine (Tryz.strconv_Itoa n h0 h1 w (ht.later hb)).mono fun e w' ⟨e1, k, os, e2⟩ => ⟨e1, ?_⟩
  subst e2
  exact Go.Lib.below_grow _ w (Nat.le_refl _) k os

/-- The digits of a number as plain data. -/
def digN (bs : List UInt8) : List UInt8 := (bs.take 62).map fun b => dch (b.toNat % 10)
def ofN (neg : Bool) (bs : List UInt8) (sc : UInt8) : D := canon neg (natOf (digN bs)) (sc.toNat % 63)

theorem digN_len (bs : List UInt8) : (digN bs).length = min 62 bs.length := by simp [digN]
theorem map_all (l : List UInt8) : (l.map fun b => dch (b.toNat % 10)).all dg = true := by
  rw [List.all_eq_true]
  intro x hx
  simp only [List.mem_map] at hx
  obtain ⟨b, _, rfl⟩ := hx
  exact dch_dg (Nat.mod_lt _ (by omega))
theorem digN_all (bs : List UInt8) : (digN bs).all dg = true := map_all _
theorem take_snoc (bs : List UInt8) (i : Nat) (hi : i < bs.length) : bs.take (i + 1) = bs.take i ++ [bs.getD i 0] := by
  rw [List.take_add_one, List.getD, List.getElem?_eq_getElem hi]
  rfl

theorem c_ofN (w₀ : World) (h : AHeap) (neg : Bool) (v : AVal) (bs : List UInt8) (sc : UInt8) (hb : IsB w₀ h v bs) (hl : bs.length ≤ 9223372036854775807) :
    ACall Tryz.prog w₀ 14 [.agg [.bool neg, v, .int .u8 sc.toNat]] h (fun r h' => r = decA (ofN neg bs sc) ∧ h' = h) := by
  have hsc := sc.toNat_lt
  have hlv := hb.live
  refine acall_intro (n := 34) (rs := [.cell 2 27]) Tryz.func14 rfl rfl rfl rfl (Nat.le_of_ble_eq_true rfl) ?_
  simp only [initSlots]
  -- region 0  law.go:19
  refine awp_rseq [1, 2] (by rfl) fun K hK => ?_
  refine aOps_box (by rfl) (by rfl) (by rfl) fun k0q0 hk0q0 => ?_
  try have hf_0q0 : h k0q0 = none := by first | assumption | (simp only [AHeap.set_none] at hk0q0; simp only [hk0q0])
  skip
  refine aOps_alloc ze27 (cs := [.bool false, .str [], .int .i64 0]) (by rfl) fun k0q1 hk0q1 => ?_
  have ne_0q1_0q0 : k0q1 ≠ k0q0 := by simp only [AHeap.set_none] at hk0q1; simp only [hk0q1, ne_eq, not_false_eq_true]
  try have hf_0q1 : h k0q1 = none := by first | assumption | (simp only [AHeap.set_none] at hk0q1; simp only [hk0q1])
  simp (decide := true) only [aOps_nil, ev, putD, Slots.put, Slots.get, Slots.keep, if_true, if_false, AVal.cells]
  repeat (with_reducible refine And.intro ?_ ?_; · first | trivial | omega | (intro hg; simp only [Bool.and_eq_true, Bool.or_eq_true, Bool.not_eq_true', Bool.and_eq_false_iff, Bool.or_eq_false_iff, Bool.not_eq_false', decide_eq_true_eq, decide_eq_false_iff_not, eqNil] at hg; omega) )
  apply hK; clear hK K
  -- region 1  law.go:20
  refine awp_rseq [1, 2, 3] (by rfl) fun K hK => ?_
  simp (decide := true) only [aOps_nil, ev, absV, absS, putD, Slots.put, Slots.keep, if_true, if_false, true_and, ↓ap_assign, pop_assign]
  repeat (with_reducible refine And.intro ?_ ?_; · first | trivial | omega | (intro hg; simp only [Bool.and_eq_true, Bool.or_eq_true, Bool.not_eq_true', Bool.and_eq_false_iff, Bool.or_eq_false_iff, Bool.not_eq_false', decide_eq_true_eq, decide_eq_false_iff_not, eqNil] at hg; omega) )
  apply hK; clear hK K
  refine awp_seq ?_
  -- region 2  law.go:21
  refine awp_rseq [1, 2, 3, 4] (by rfl) fun K hK => ?_
  simp (decide := true) only [aOps_nil, ev, absV, absS, putD, Slots.put, Slots.keep, if_true, if_false, true_and, ↓ap_assign, pop_assign]
  repeat (with_reducible refine And.intro ?_ ?_; · first | trivial | omega | (intro hg; simp only [Bool.and_eq_true, Bool.or_eq_true, Bool.not_eq_true', Bool.and_eq_false_iff, Bool.or_eq_false_iff, Bool.not_eq_false', decide_eq_true_eq, decide_eq_false_iff_not, eqNil] at hg; omega) )
  apply hK; clear hK K
  refine awp_block ?_
  refine awp_loopG [1, 2, 3, 4] (fun i : Nat => [(1, .ptr (.own k0q0) 0), (2, .ptr (.own k0q1) 0), (3, .str ((bs.take i).map fun b => dch (b.toNat % 10))), (4, .int .i64 i)]) (fun i : Nat => (h.set k0q0 ⟨[.bool neg, v, .int .u8 sc.toNat], 0⟩).set k0q1 ⟨[.bool false, .str [], .int .i64 0], 0⟩) (fun i : Nat => i ≤ bs.length ∧ i ≤ 62) (fun i : Nat => bs.length - i) 0 (by rfl) (Sub.refl _) ⟨Nat.zero_le _, by omega⟩ ?_
  rintro i ⟨hi, hi2⟩
  have hbs : IsB w₀ ((h.set k0q0 ⟨[.bool neg, v, .int .u8 sc.toNat], 0⟩).set k0q1 ⟨[.bool false, .str [], .int .i64 0], 0⟩) v bs := hb.mono (by repeat (first | exact Sub.refl _ | refine Sub.trans_set ?_ (by assumption)))
  refine awp_seq ?_
  -- region 3  law.go:21
  refine awp_rseq [1, 2, 3, 4, 13] (by rfl) fun K hK => ?_
  simp (decide := true) only [aOps_nil, ev, absV, absS, putD, Slots.put, Slots.get, Slots.keep, if_true, if_false, true_and, ↓ap_move, pop_move, ↓ap_fieldAddr, pop_fieldAddr, fa24_1, ↓ap_loadL, apL_mk, pLoad_one ag22, ↓ap_len, pop_len, ↓ap_binOp, pop_binOp, isNilC_tmp, cond_false, pBinX_int, pI_lss, ↓ag_move, agP, agQ_some, nthDst, gKnown_bool, guardB_bool_true, implies_true, ↓ag_binOp, isNilC_int, cv_binl, cp_binl, ↓ap_pick, pop_pick, pPick_bool, pickV_cond_l, pickV_and, rd_ne', ne_eq, not_false_eq_true, ne_0q1_0q0.symm, rd_any, List.getD_cons_zero, List.getD_cons_succ, Nat.zero_add, hbs.len Tryz.underlying22, hlv]
  repeat (with_reducible refine And.intro ?_ ?_; · first | trivial | omega | (intro hg; simp only [Bool.and_eq_true, Bool.or_eq_true, Bool.not_eq_true', Bool.and_eq_false_iff, Bool.or_eq_false_iff, Bool.not_eq_false', decide_eq_true_eq, decide_eq_false_iff_not, eqNil] at hg; omega) )
  apply hK; clear hK K
  refine awp_cond (b := _) rfl (fun hb1 => ?_) (fun hb1 => ?_)
  · try simp only [decide_eq_true_eq, Bool.and_eq_true] at hb1
    refine awp_skip ?_
    change Awp _ _ _ _ _ _ _
    refine awp_seq ?_
    refine awp_block ?_
    -- region 5  law.go:22
    refine awp_r [1, 2, 3, 4] (by rfl) ?_
    simp (decide := true) only [ev, absV, absS, putD, Slots.put, Slots.get, if_true, if_false, true_and, ↓ap_move, pop_move, ↓ap_fieldAddr, pop_fieldAddr, fa24_1, ↓ap_loadL, apL_mk, pLoad_one ag22, ↓ap_indexAddrL, ↓ap_binOp, pop_binOp, isNilC_int, cond_false, pBinX_int, pI_rem, ↓ap_convert _ _ _ (es_int Tryz.underlying5 Tryz.underlying3), pop_convert, pConv_int Tryz.underlying5 Tryz.underlying3, rd_ne', ne_eq, not_false_eq_true, ne_0q1_0q0.symm, rd_any, List.getD_cons_zero, List.getD_cons_succ, Nat.zero_add, decA, hbs.apI Tryz.underlying22 sz5, hbs.apLd ag5, hlv, Int.toNat_natCast]
    try simp (disch := omega) only [wrap_i64, wrap_u8]
    repeat (with_reducible refine And.intro ?_ ?_; · first | trivial | omega | (intro hg; simp only [Bool.and_eq_true, Bool.or_eq_true, Bool.not_eq_true', Bool.and_eq_false_iff, Bool.or_eq_false_iff, Bool.not_eq_false', decide_eq_true_eq, decide_eq_false_iff_not, eqNil] at hg; omega) )
    rw [show ((bs.getD i 0).toNat : Int).tmod 10 = (((bs.getD i 0).toNat % 10 : Nat) : Int) by rw [Int.tmod_eq_emod_of_nonneg (by omega)]; omega, wrap_i64 (by omega) (by omega)]
    refine aOps_callV (V := .str (decDigits ((bs.getD i 0).toNat % 10))) (by rfl) (by rfl) (c_itoaSmall w₀ _ _ (by omega)) ?_
    simp (decide := true) only [aOps_nil, ev, putD, Slots.put, Slots.get, Slots.keep, if_true, if_false, true_and, ↓ap_binOp, pop_binOp, isNilC_tmp, cond_false, pBinX_str, pS_add, ↓ap_assign, pop_assign]
    rw [decDigits_small (Nat.mod_lt _ (by omega))]
    refine And.intro (by simp; omega) ?_
    change Awp _ _ _ _ _ _ _
    -- region 4  law.go:21
    refine awp_r [1, 2, 3, 4] (by rfl) ?_
    simp (decide := true) only [aOps_nil, ev, absV, absS, putD, Slots.put, Slots.get, Slots.keep, if_true, if_false, true_and, ↓ap_move, pop_move, ↓ap_binOp, pop_binOp, isNilC_int, cond_false, pBinX_int, pI_add, ↓ap_assign, pop_assign]
    try simp (disch := omega) only [wrap_i64]
    repeat (with_reducible refine And.intro ?_ ?_; · first | trivial | omega | (intro hg; simp only [Bool.and_eq_true, Bool.or_eq_true, Bool.not_eq_true', Bool.and_eq_false_iff, Bool.or_eq_false_iff, Bool.not_eq_false', decide_eq_true_eq, decide_eq_false_iff_not, eqNil] at hg; omega) )
    try simp only [thenA_normal]
    refine ⟨i + 1, ?_, Sub.refl _, ⟨by omega, by omega⟩, by omega⟩
    rw [take_snoc bs i (by omega), List.map_append]
    rfl
  · try simp only [decide_eq_false_iff_not, Bool.and_eq_false_iff] at hb1
    have htk : (bs.take i).map (fun b => dch (b.toNat % 10)) = digN bs := by
      rw [digN]
      congr 1
      rcases hb1 with e | e
      · rw [List.take_of_length_le (by omega), List.take_of_length_le (by omega)]
      · rw [show i = 62 by omega]
    rw [htk]
    refine awp_exit ?_
    change Awp _ _ _ _ _ _ _
    -- region 6  law.go:24
    refine awp_rseq [2] (by rfl) fun K hK => ?_
    simp (decide := true) only [ev, absV, absS, putD, Slots.put, Slots.get, if_true, if_false, true_and, ↓ap_fieldAddr, pop_fieldAddr, fa24_0, ↓ap_loadL, apL_mk, pLoad_one ag4, ↓ap_move, pop_move, fa24_2, pLoad_one ag5, ↓ap_binOp, pop_binOp, isNilC_int, cond_false, pBinX_int, pI_rem, ↓ap_convert _ _ _ (es_int Tryz.underlying5 Tryz.underlying3), pop_convert, pConv_int Tryz.underlying5 Tryz.underlying3, rd_ne', ne_eq, not_false_eq_true, ne_0q1_0q0.symm, rd_any, List.getD_cons_zero, List.getD_cons_succ, Nat.zero_add, lv_bool, lv_int]
    try simp (disch := omega) only [wrap_i64, wrap_u8]
    repeat (with_reducible refine And.intro ?_ ?_; · first | trivial | omega | (intro hg; simp only [Bool.and_eq_true, Bool.or_eq_true, Bool.not_eq_true', Bool.and_eq_false_iff, Bool.or_eq_false_iff, Bool.not_eq_false', decide_eq_true_eq, decide_eq_false_iff_not, eqNil] at hg; omega) )
    rw [show (sc.toNat : Int).tmod 63 = ((sc.toNat % 63 : Nat) : Int) by rw [Int.tmod_eq_emod_of_nonneg (by omega)]; omega, wrap_i64 (by omega) (by omega)]
    refine aOps_callV (V := decA (ofN neg bs sc)) (by rfl) (by rfl) ((c_Normal w₀ _ neg _ _ (digN_all _) (by rw [digN_len]; omega) (by omega) (by omega)).val (by rw [ofN]; rfl)) ?_
    refine aOps_store (by rfl) (by rfl) (by repeat (first | exact AHeap.set_same _ _ _ | assumption | refine (AHeap.set_ne _ _ (by first | assumption | exact Ne.symm (by assumption))).trans ?_)) sz27 (by rfl) (by rfl) (by first | exact Nat.le_refl _ | decide | (simp; done) | (simp; omega)) (Nat.zero_le _) (by rfl) ?_
    simp only [AHeap.set_set, AVal.cells]
    simp (decide := true) only [aOps_nil, ev, putD, Slots.put, Slots.get, Slots.keep, if_true, if_false, setAt, List.set_cons_zero, List.set_cons_succ, Nat.zero_add, Nat.reduceAdd, decA]
    repeat (with_reducible refine And.intro ?_ ?_; · first | trivial | omega | (intro hg; simp only [Bool.and_eq_true, Bool.or_eq_true, Bool.not_eq_true', Bool.and_eq_false_iff, Bool.or_eq_false_iff, Bool.not_eq_false', decide_eq_true_eq, decide_eq_false_iff_not, eqNil] at hg; omega) )
    apply hK; clear hK K
    refine awp_ret ?_
    try simp only [thenA_ret, inBlockA_ret]
    refine retA_ret h (by repeat (first | exact Sub.refl _ | refine Sub.trans_set ?_ (by assumption))) (?_) ?_
    · simp (decide := true) only [resPre, resV_cell, Slots.get, if_true, and_true, resV_cell, pLoad_agg ag27 sz27, rd_set, cellsAt, List.getD_cons_zero, List.getD_cons_succ, Nat.zero_add, Nat.reduceAdd, lv_bool, lv_int, lv_str, allLive, Bool.and_true, cellsAt, List.getD_cons_zero, List.getD_cons_succ, Nat.zero_add, Nat.reduceAdd, lv_bool, lv_int, lv_str, allLive, Bool.and_true]
    
    simp (decide := true) only [Slots.get, if_true, and_true, resOfG_one, resV_cell, pLoad_agg ag27 sz27, rd_set, cellsAt, List.getD_cons_zero, List.getD_cons_succ, Nat.zero_add, Nat.reduceAdd, lv_bool, lv_int, lv_str, allLive, Bool.and_true, cellsAt, List.getD_cons_zero, List.getD_cons_succ, Nat.zero_add, Nat.reduceAdd, lv_bool, lv_int, lv_str, allLive, Bool.and_true, decA]
    all_goals first | rfl | exact ⟨rfl, rfl⟩ | (simp (decide := true) only [if_true, if_false, *]; done) | (trace_state; fail)
end Go.Proofs.YthiiakghjoeikaaGreatDoor
