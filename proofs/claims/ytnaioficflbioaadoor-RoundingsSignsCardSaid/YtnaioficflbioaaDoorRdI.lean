/-
  The statement RoundingsRound, walked.
  Conditions: none.
-/
import Derived.Test.YtnaioficflbioaaDoorRdH
set_option linter.unusedSimpArgs false
set_option linter.unnecessarySimpa false
set_option linter.unusedVariables false
namespace Go.Proofs.YtnaioficflbioaaDoor
open Go.AM
open Go.Proofs
open Go.Dec
open Go.Lib (decDigits)
set_option maxRecDepth 100000

theorem ofN_check (neg : Bool) (bs : List UInt8) (sc : UInt8) : checkE (ofN neg bs sc) = 0 := by
  unfold ofN
  refine check_canon _ _ _ (long_canon _ _ _ ?_ (by omega))
  have h1 := natOf_lt _ (digN_all bs)
  rw [digN_len] at h1
  exact Nat.lt_of_lt_of_le h1 (Nat.pow_le_pow_right (by omega) (by omega))
theorem gSc_bound (b : UInt8) : -62 ≤ gSc b ∧ gSc b ≤ 62 := by
  unfold gSc
  split <;> omega
theorem gDig_bound (a : UInt8) : 1 ≤ gDig a ∧ gDig a ≤ 62 := by
  unfold gDig
  split <;> omega
theorem lostB_steps (neg : Bool) (w : Nat) (s : Int) : lostB (stepsD neg w s) s = false := by
  obtain ⟨h1, h2⟩ := canon_at neg (w * 10 ^ (-s).toNat) s.toNat
  have h0 := canon_scale neg (w * 10 ^ (-s).toNat) s.toNat
  unfold lostB
  rcases Int.le_total 0 s with c | c
  · rw [decide_eq_false (by unfold stepsD; omega)]
    rfl
  · have hz : lostN (stepsD neg w s) s = 0 := by
      unfold lostN stepsD
      have e : (canon neg (w * 10 ^ (-s).toNat) s.toNat).scale = 0 := by omega
      rw [e] at h1 ⊢
      rw [show s.toNat = 0 by omega] at *
      rw [show 0 - (0 : Int).toNat = 0 from rfl, Nat.pow_zero, Nat.mul_one] at h1
      rw [h1, show (0 - s).toNat = (-s).toNat by omega]
      exact Nat.mul_mod_left _ _
    rw [hz]
    simp
theorem chosen_form {d : D} (s m : Int) (h : lostB d s = true) : ∃ w, chosenE d s m = stepsD d.neg w s := by
  unfold chosenE
  rw [if_neg (by rw [h]; decide), farE, nearE, if_pos h]
  split
  · exact ⟨_, rfl⟩
  · exact ⟨_, rfl⟩
theorem chosen_again {d : D} (hd : checkE d = 0) (s m m' : Int) (s0 : -62 ≤ s) (s1 : s ≤ 62) (m7 : m' ≤ 7) (hl : long (chosenE d s m) ≤ 62) : roundE (chosenE d s m) s m' = (chosenE d s m, 0) ∧ checkE (chosenE d s m) = 0 := by
  have hc : checkE (chosenE d s m) = 0 ∧ lostB (chosenE d s m) s = false := by
    cases hb : lostB d s with
    | false =>
      have e : chosenE d s m = d := by unfold chosenE; rw [if_pos hb]
      rw [e]
      exact ⟨hd, hb⟩
    | true =>
      obtain ⟨w, e⟩ := chosen_form s m hb
      rw [e] at hl ⊢
      exact ⟨check_canon _ _ _ hl, lostB_steps _ _ _⟩
  rw [roundE_val hc.1 _ _ s0 s1 m7, if_pos hc.2]
  exact ⟨rfl, hc.1⟩
theorem check_len {d : D} (h : checkE d = 0) : d.dig.length ≤ 9223372036854775807 := by
  have := (Small_of_check h).1.l
  omega

set_option maxHeartbeats 2000000 in
theorem l_RoundingsRound (w₀ : World) (ht : Tab10 w₀) (h : AHeap) (neg : Bool) (v : AVal) (bs : List UInt8) (sc : UInt8) (hb : IsB w₀ h v bs) (hl : bs.length ≤ 9223372036854775807) (a b : UInt8) (m : UInt8) :
    ACall Tryd.prog w₀ 3 [.agg [.bool neg, v, .int .u8 sc.toNat], .agg [.int .u8 a.toNat, .int .u8 b.toNat], .int .u8 m.toNat] h (fun x _ => x = .bool true) := by
  refine ACall.mono (R := fun x h' => x = .bool true ∧ h' = h) ?_ fun x h' hx => hx.1
  have hlv := hb.live
  have hm := m.toNat_lt
  obtain ⟨d, hd⟩ : ∃ d, d = ofN neg bs sc := ⟨_, rfl⟩
  have hv : checkE d = 0 := by rw [hd]; exact ofN_check _ _ _
  obtain ⟨sd, dd, _, _⟩ := Small_of_check hv
  have hdl := check_len hv
  obtain ⟨s, hs⟩ : ∃ s, s = gSc b := ⟨_, rfl⟩
  obtain ⟨s0, s1⟩ : -62 ≤ s ∧ s ≤ 62 := by rw [hs]; exact gSc_bound b
  obtain ⟨mm, hmm⟩ : ∃ mm : Int, mm = (m.toNat : Int) % 8 := ⟨_, rfl⟩
  have mm0 : 0 ≤ mm ∧ mm ≤ 7 := by omega
  have hr := roundE_val hv s mm s0 s1 mm0.2
  have hrr : (¬mm = 7 ∨ lostB d s = false) → ¬62 < long (chosenE d s mm) → roundE d s mm = (chosenE d s mm, 0) ∧
      roundE (chosenE d s mm) s ((mm + (m.toNat : Int) / 8) % 8) = (chosenE d s mm, 0) ∧ checkE (chosenE d s mm) = 0 := by
    intro hb1 hb2
    refine ⟨?_, chosen_again hv s mm ((mm + (m.toNat : Int) / 8) % 8) s0 s1 (by omega) (by omega)⟩
    rw [hr]
    split
    · rename_i hb0
      unfold chosenE; rw [if_pos hb0]
    · rename_i hb0
      rw [if_neg (by rintro e; rcases hb1 with hb1 | hb1; exact hb1 e; exact hb0 hb1), resE, if_neg hb2]
  refine acall_intro (n := 108) (rs := [.tmp 6]) Tryd.func3 rfl rfl rfl rfl (Nat.le_of_ble_eq_true rfl) ?_
  simp only [initSlots]
  -- region 0  law.go:166
  refine awp_rseq [2, 3, 4] (by rfl) fun K hK => ?_
  refine aOps_box (by rfl) (by rfl) (by rfl) fun k0q0 hk0q0 => ?_
  try have hf_0q0 : h k0q0 = none := by first | assumption | (simp only [AHeap.set_none] at hk0q0; simp only [hk0q0])
  skip
  refine aOps_box (by rfl) (by rfl) (by rfl) fun k0q1 hk0q1 => ?_
  have ne_0q1_0q0 : k0q1 ≠ k0q0 := by simp only [AHeap.set_none] at hk0q1; simp only [hk0q1, ne_eq, not_false_eq_true]
  try have hf_0q1 : h k0q1 = none := by first | assumption | (simp only [AHeap.set_none] at hk0q1; simp only [hk0q1])
  skip
  simp (decide := true) only [aOps_nil, ev, absV, absS, putD, Slots.put, Slots.get, Slots.keep, if_true, if_false, true_and, ↓ap_assign, pop_assign, AVal.cells, Nat.zero_add, Nat.reduceAdd]
  repeat (with_reducible refine And.intro ?_ ?_; · first | trivial | omega | (intro hg; simp only [Bool.and_eq_true, Bool.or_eq_true, Bool.not_eq_true', Bool.and_eq_false_iff, Bool.or_eq_false_iff, Bool.not_eq_false', decide_eq_true_eq, decide_eq_false_iff_not, eqNil] at hg; omega))
  apply hK; clear hK K
  -- region 1  law.go:167
  refine awp_rseq [2, 4, 7] (by rfl) fun K hK => ?_
  simp (decide := true) only [ev, putD, Slots.put, Slots.get, if_true, if_false, true_and, ↓ap_loadL, apL_mk, pLoad_agg ag24 sz24, rd_ne', ne_eq, not_false_eq_true, ne_0q1_0q0.symm, rd_any, cellsAt, List.getD_cons_zero, List.getD_cons_succ, Nat.zero_add, Nat.reduceAdd, lv_bool, lv_int, allLive, Bool.and_true, hlv]
  repeat (with_reducible refine And.intro ?_ ?_; · first | trivial | omega | (intro hg; simp only [Bool.and_eq_true, Bool.or_eq_true, Bool.not_eq_true', Bool.and_eq_false_iff, Bool.or_eq_false_iff, Bool.not_eq_false', decide_eq_true_eq, decide_eq_false_iff_not, eqNil] at hg; omega))
  refine aOps_callV (V := decA d) (by rfl) (by rfl) ((c_ofN w₀ _ neg v bs sc (hb.mono (by repeat (first | exact Sub.refl _ | refine Sub.trans_set ?_ (by assumption)))) hl).val (by rw [hd])) ?_
  refine aOps_alloc ze28 (cs := [.bool false, .str [], .int .i64 0]) (by rfl) fun k1q2 hk1q2 => ?_
  have ne_1q2_0q0 : k1q2 ≠ k0q0 := by simp only [AHeap.set_none] at hk1q2; simp only [hk1q2, ne_eq, not_false_eq_true]
  have ne_1q2_0q1 : k1q2 ≠ k0q1 := by simp only [AHeap.set_none] at hk1q2; simp only [hk1q2, ne_eq, not_false_eq_true]
  try have hf_1q2 : h k1q2 = none := by first | assumption | (simp only [AHeap.set_none] at hk1q2; simp only [hk1q2])
  refine aOps_store (by rfl) (by rfl) (by repeat (first | exact AHeap.set_same _ _ _ | assumption | refine (AHeap.set_ne _ _ (by first | assumption | exact Ne.symm (by assumption))).trans ?_)) sz28 (by rfl) (by rfl) (by first | exact Nat.le_refl _ | decide | (simp; done) | (simp; omega)) (Nat.zero_le _) (by rfl) ?_
  simp only [AHeap.set_set, AVal.cells]
  simp (decide := true) only [aOps_nil, ev, putD, Slots.put, Slots.get, Slots.keep, if_true, if_false, setAt, List.set_cons_zero, List.set_cons_succ, Nat.zero_add, Nat.reduceAdd, decA]
  repeat (with_reducible refine And.intro ?_ ?_; · first | trivial | omega | (intro hg; simp only [Bool.and_eq_true, Bool.or_eq_true, Bool.not_eq_true', Bool.and_eq_false_iff, Bool.or_eq_false_iff, Bool.not_eq_false', decide_eq_true_eq, decide_eq_false_iff_not, eqNil] at hg; omega))
  apply hK; clear hK K
  -- region 2  law.go:168
  refine awp_rseq [2, 7, 9] (by rfl) fun K hK => ?_
  simp (decide := true) only [ev, putD, Slots.put, Slots.get, if_true, if_false, true_and, ↓ap_loadL, apL_mk, pLoad_agg ag26 sz26, rd_ne', ne_eq, not_false_eq_true, ne_1q2_0q1.symm, rd_any, cellsAt, List.getD_cons_zero, List.getD_cons_succ, Nat.zero_add, lv_int, allLive, Bool.and_true]
  repeat (with_reducible refine And.intro ?_ ?_; · first | trivial | omega | (intro hg; simp only [Bool.and_eq_true, Bool.or_eq_true, Bool.not_eq_true', Bool.and_eq_false_iff, Bool.or_eq_false_iff, Bool.not_eq_false', decide_eq_true_eq, decide_eq_false_iff_not, eqNil] at hg; omega))
  refine aOps_callV (V := .tuple [.int .i64 (gDig a), .int .i64 s]) (by rfl) (by rfl) ((c_gridOf w₀ _ a b).val (by rw [hs])) ?_
  simp (decide := true) only [aOps_nil, ev, putD, Slots.put, Slots.get, Slots.keep, if_true, if_false, true_and, ↓ap_move, pop_move, ↓ap_extract, pop_extract, pExt_tuple, List.length_cons, List.length_nil, List.getD_cons_zero, List.getD_cons_succ, ↓ap_assign, pop_assign, List.getD_cons_zero, List.getD_cons_succ, Nat.zero_add, Nat.reduceAdd]
  repeat (with_reducible refine And.intro ?_ ?_; · first | trivial | omega | (intro hg; simp only [Bool.and_eq_true, Bool.or_eq_true, Bool.not_eq_true', Bool.and_eq_false_iff, Bool.or_eq_false_iff, Bool.not_eq_false', decide_eq_true_eq, decide_eq_false_iff_not, eqNil] at hg; omega))
  apply hK; clear hK K
  -- region 3  law.go:169
  refine awp_rseq [2, 7, 9, 10] (by rfl) fun K hK => ?_
  simp (decide := true) only [aOps_nil, ev, absV, absS, putD, Slots.put, Slots.get, Slots.keep, if_true, if_false, true_and, ↓ap_move, pop_move, ↓ap_binOp, pop_binOp, pBinX_int, pI_rem, ↓ap_convert _ _ _ (es_int Tryd.underlying5 Tryd.underlying3), pop_convert, pConv_int Tryd.underlying5 Tryd.underlying3, ↓ap_assign, pop_assign]
  try simp (disch := omega) only [Int.tmod_eq_emod_of_nonneg, wrap_i64]
  rw [← hmm]
  apply hK; clear hK K
  -- region 4  law.go:170
  refine awp_rseq [2, 7, 9, 10, 11, 12] (by rfl) fun K hK => ?_
  simp (decide := true) only [ev, putD, Slots.put, Slots.get, if_true, if_false, true_and, ↓ap_loadL, apL_mk, pLoad_agg ag28 sz28, ↓ap_move, pop_move, ↓ap_convert _ _ _ (es_int Tryd.underlying3 Tryd.underlying35), pop_convert, pConv_int Tryd.underlying3 Tryd.underlying35, rd_any, cellsAt, List.getD_cons_zero, List.getD_cons_succ, Nat.zero_add, Nat.reduceAdd, lv_bool, lv_int, lv_str, allLive, Bool.and_true]
  try simp (disch := omega) only [wrap_u8]
  repeat (with_reducible refine And.intro ?_ ?_; · first | trivial | omega | (intro hg; simp only [Bool.and_eq_true, Bool.or_eq_true, Bool.not_eq_true', Bool.and_eq_false_iff, Bool.or_eq_false_iff, Bool.not_eq_false', decide_eq_true_eq, decide_eq_false_iff_not, eqNil] at hg; omega))
  refine aOps_callV (V := .tuple [decA (roundE d s mm).1, .int .i64 (roundE d s mm).2]) (by rfl) (by rfl) (c_Round w₀ _ d s mm hdl (by omega) (by omega) mm0.1) ?_
  simp (decide := true) only [ev, putD, Slots.put, Slots.get, if_true, if_false, true_and, ↓ap_move, pop_move, ↓ap_extract, pop_extract, pExt_tuple, List.length_cons, List.length_nil, List.getD_cons_zero, List.getD_cons_succ, List.getD_cons_zero, List.getD_cons_succ, Nat.zero_add, Nat.reduceAdd, decA]
  repeat (with_reducible refine And.intro ?_ ?_; · first | trivial | omega | (intro hg; simp only [Bool.and_eq_true, Bool.or_eq_true, Bool.not_eq_true', Bool.and_eq_false_iff, Bool.or_eq_false_iff, Bool.not_eq_false', decide_eq_true_eq, decide_eq_false_iff_not, eqNil] at hg; omega))
  refine aOps_alloc ze28 (cs := [.bool false, .str [], .int .i64 0]) (by rfl) fun k4q8 hk4q8 => ?_
  have ne_4q8_0q0 : k4q8 ≠ k0q0 := by simp only [AHeap.set_none] at hk4q8; simp only [hk4q8, ne_eq, not_false_eq_true]
  have ne_4q8_0q1 : k4q8 ≠ k0q1 := by simp only [AHeap.set_none] at hk4q8; simp only [hk4q8, ne_eq, not_false_eq_true]
  have ne_4q8_1q2 : k4q8 ≠ k1q2 := by simp only [AHeap.set_none] at hk4q8; simp only [hk4q8, ne_eq, not_false_eq_true]
  try have hf_4q8 : h k4q8 = none := by first | assumption | (simp only [AHeap.set_none] at hk4q8; simp only [hk4q8])
  refine aOps_store (by rfl) (by rfl) (by repeat (first | exact AHeap.set_same _ _ _ | assumption | refine (AHeap.set_ne _ _ (by first | assumption | exact Ne.symm (by assumption))).trans ?_)) sz28 (by rfl) (by rfl) (by first | exact Nat.le_refl _ | decide | (simp; done) | (simp; omega)) (Nat.zero_le _) (by rfl) ?_
  simp only [AHeap.set_set, AVal.cells]
  simp (decide := true) only [aOps_nil, ev, putD, Slots.put, Slots.get, Slots.keep, if_true, if_false, true_and, ↓ap_assign, pop_assign, setAt, List.set_cons_zero, List.set_cons_succ, Nat.zero_add, Nat.reduceAdd]
  repeat (with_reducible refine And.intro ?_ ?_; · first | trivial | omega | (intro hg; simp only [Bool.and_eq_true, Bool.or_eq_true, Bool.not_eq_true', Bool.and_eq_false_iff, Bool.or_eq_false_iff, Bool.not_eq_false', decide_eq_true_eq, decide_eq_false_iff_not, eqNil] at hg; omega))
  apply hK; clear hK K
  -- region 5  law.go:171
  refine awp_rseq [2, 7, 9, 10, 11, 12, 16] (by rfl) fun K hK => ?_
  simp (decide := true) only [ev, putD, Slots.put, Slots.get, if_true, if_false, true_and, ↓ap_loadL, apL_mk, pLoad_agg ag28 sz28, ↓ap_move, pop_move, rd_ne', ne_eq, not_false_eq_true, ne_4q8_1q2.symm, rd_any, cellsAt, List.getD_cons_zero, List.getD_cons_succ, Nat.zero_add, Nat.reduceAdd, lv_bool, lv_int, lv_str, allLive, Bool.and_true]
  repeat (with_reducible refine And.intro ?_ ?_; · first | trivial | omega | (intro hg; simp only [Bool.and_eq_true, Bool.or_eq_true, Bool.not_eq_true', Bool.and_eq_false_iff, Bool.or_eq_false_iff, Bool.not_eq_false', decide_eq_true_eq, decide_eq_false_iff_not, eqNil] at hg; omega))
  refine aOps_callV (V := .tuple [decA (nearE d s), decA (farE d s), .str (lostS d s), .bool (lostB d s)]) (by rfl) (by rfl) (c_neighbors w₀ _ d s sd dd s0 s1) ?_
  simp (decide := true) only [ev, putD, Slots.put, Slots.get, if_true, if_false, true_and, ↓ap_move, pop_move, ↓ap_extract, pop_extract, pExt_tuple, List.length_cons, List.length_nil, List.getD_cons_zero, List.getD_cons_succ, List.getD_cons_zero, List.getD_cons_succ, Nat.zero_add, Nat.reduceAdd, decA]
  repeat (with_reducible refine And.intro ?_ ?_; · first | trivial | omega | (intro hg; simp only [Bool.and_eq_true, Bool.or_eq_true, Bool.not_eq_true', Bool.and_eq_false_iff, Bool.or_eq_false_iff, Bool.not_eq_false', decide_eq_true_eq, decide_eq_false_iff_not, eqNil] at hg; omega))
  refine aOps_alloc ze28 (cs := [.bool false, .str [], .int .i64 0]) (by rfl) fun k5q8 hk5q8 => ?_
  have ne_5q8_0q0 : k5q8 ≠ k0q0 := by simp only [AHeap.set_none] at hk5q8; simp only [hk5q8, ne_eq, not_false_eq_true]
  have ne_5q8_0q1 : k5q8 ≠ k0q1 := by simp only [AHeap.set_none] at hk5q8; simp only [hk5q8, ne_eq, not_false_eq_true]
  have ne_5q8_1q2 : k5q8 ≠ k1q2 := by simp only [AHeap.set_none] at hk5q8; simp only [hk5q8, ne_eq, not_false_eq_true]
  have ne_5q8_4q8 : k5q8 ≠ k4q8 := by simp only [AHeap.set_none] at hk5q8; simp only [hk5q8, ne_eq, not_false_eq_true]
  try have hf_5q8 : h k5q8 = none := by first | assumption | (simp only [AHeap.set_none] at hk5q8; simp only [hk5q8])
  refine aOps_alloc ze28 (cs := [.bool false, .str [], .int .i64 0]) (by rfl) fun k5q9 hk5q9 => ?_
  have ne_5q9_0q0 : k5q9 ≠ k0q0 := by simp only [AHeap.set_none] at hk5q9; simp only [hk5q9, ne_eq, not_false_eq_true]
  have ne_5q9_0q1 : k5q9 ≠ k0q1 := by simp only [AHeap.set_none] at hk5q9; simp only [hk5q9, ne_eq, not_false_eq_true]
  have ne_5q9_1q2 : k5q9 ≠ k1q2 := by simp only [AHeap.set_none] at hk5q9; simp only [hk5q9, ne_eq, not_false_eq_true]
  have ne_5q9_4q8 : k5q9 ≠ k4q8 := by simp only [AHeap.set_none] at hk5q9; simp only [hk5q9, ne_eq, not_false_eq_true]
  have ne_5q9_5q8 : k5q9 ≠ k5q8 := by simp only [AHeap.set_none] at hk5q9; simp only [hk5q9, ne_eq, not_false_eq_true]
  try have hf_5q9 : h k5q9 = none := by first | assumption | (simp only [AHeap.set_none] at hk5q9; simp only [hk5q9])
  refine aOps_store (by rfl) (by rfl) (by repeat (first | exact AHeap.set_same _ _ _ | assumption | refine (AHeap.set_ne _ _ (by first | assumption | exact Ne.symm (by assumption))).trans ?_)) sz28 (by rfl) (by rfl) (by first | exact Nat.le_refl _ | decide | (simp; done) | (simp; omega)) (Nat.zero_le _) (by rfl) ?_
  simp only [AVal.cells]
  refine aOps_store (by rfl) (by rfl) (by repeat (first | exact AHeap.set_same _ _ _ | assumption | refine (AHeap.set_ne _ _ (by first | assumption | exact Ne.symm (by assumption))).trans ?_)) sz28 (by rfl) (by rfl) (by first | exact Nat.le_refl _ | decide | (simp; done) | (simp; omega)) (Nat.zero_le _) (by rfl) ?_
  simp only [AVal.cells]
  simp (decide := true) only [aOps_nil, ev, putD, Slots.put, Slots.get, Slots.keep, if_true, if_false, true_and, ↓ap_assign, pop_assign, setAt, List.set_cons_zero, List.set_cons_succ, Nat.zero_add, Nat.reduceAdd]
  repeat (with_reducible refine And.intro ?_ ?_; · first | trivial | omega | (intro hg; simp only [Bool.and_eq_true, Bool.or_eq_true, Bool.not_eq_true', Bool.and_eq_false_iff, Bool.or_eq_false_iff, Bool.not_eq_false', decide_eq_true_eq, decide_eq_false_iff_not, eqNil] at hg; omega))
  apply hK; clear hK K
  refine awp_seq ?_
  -- region 6  law.go:172
  refine awp_rseq [2, 7, 9, 10, 11, 12, 50] (by rfl) fun K hK => ?_
  simp (decide := true) only [aOps_nil, ev, absV, absS, putD, Slots.put, Slots.get, Slots.keep, if_true, if_false, true_and, ↓ap_move, pop_move, ↓ap_binOp, pop_binOp, pBinX_int, pI_eql, ↓ag_move, agP, agQ_some, nthDst, gKnown_bool, guardB_bool_true, implies_true, ↓ap_pick, pop_pick, pPick_bool, pickV_cond_l, pickV_and]
  repeat (with_reducible refine And.intro ?_ ?_; · first | trivial | omega | (intro hg; simp only [Bool.and_eq_true, Bool.or_eq_true, Bool.not_eq_true', Bool.and_eq_false_iff, Bool.or_eq_false_iff, Bool.not_eq_false', decide_eq_true_eq, decide_eq_false_iff_not, eqNil] at hg; omega))
  apply hK; clear hK K
  refine awp_cond (b := _) rfl (fun hb1 => ?_) (fun hb1 => ?_)
  · try simp only [decide_eq_true_eq, Bool.and_eq_true] at hb1
    have hr1 : roundE d s mm = (noD, 14) := by rw [hr, if_neg (by rw [hb1.2]; decide), if_pos hb1.1]
    -- region 7  law.go:173
    refine awp_rseq [6] (by rfl) fun K hK => ?_
    simp (decide := true) only [ev, absV, absS, putD, Slots.put, Slots.get, if_true, if_false, true_and, ↓ap_move, pop_move, ↓ap_binOp, pop_binOp, pBinX_int, pI_eql, ↓ag_loadL, agQL_some, agL_mk, agP, agQ_some, nthDst, gKnown_bool, guardB_bool_true, implies_true, Bool.and_true, pLoad_agg ag28 sz28, ↓ag_build, ↓pop_buildL, bld28_, evP, List.map_nil, ↓ag_binOp, cv_binl, cv_binr, cp_binl, cp_binr, pBinX_agg, eq28, ↓ap_pick, pop_pick, pPick_bool, pickV_cond_l, pickV_and, rd_ne', ne_eq, not_false_eq_true, ne_5q8_4q8.symm, ne_5q9_4q8.symm, rd_any, cellsAt, List.getD_cons_zero, List.getD_cons_succ, Nat.zero_add, Nat.reduceAdd, lv_bool, lv_int, lv_str, allLive, Bool.and_true]
    repeat (with_reducible refine And.intro ?_ ?_; · first | trivial | omega | (intro hg; simp only [Bool.and_eq_true, Bool.or_eq_true, Bool.not_eq_true', Bool.and_eq_false_iff, Bool.or_eq_false_iff, Bool.not_eq_false', decide_eq_true_eq, decide_eq_false_iff_not, eqNil] at hg; omega))
    first
    | (refine aOps_yes (by rfl) ?_; refine aOps_callV (V := .bool true) (by rfl) (by rfl) (c_lives w₀ ht _) ?_)
    | (refine aOps_gcall (V := .bool true) (f := _) (cap := _) (xs := _) rfl (fun hg => ⟨rfl, ?_⟩) (fun hg => c_lives w₀ ht _) ?_; · (simp (decide := true) only [gv, nthDst, Slots.get, if_true, if_false, guardB_bool_true] at hg; simp (decide := true) only [evs, hg, List.append_nil, List.map_nil]))
    simp (decide := true) only [aOps_nil, ev, absV, absS, putD, Slots.put, Slots.get, Slots.keep, if_true, if_false, true_and, gv, nthDst, guardB_bool_true, ↓ap_pick, pop_pick, pPick_bool, pickV_cond_l, pickV_and, ↓ap_assign, pop_assign, Bool.and_true]
    repeat (with_reducible refine And.intro ?_ ?_; · first | trivial | omega | (intro hg; simp only [Bool.and_eq_true, Bool.or_eq_true, Bool.not_eq_true', Bool.and_eq_false_iff, Bool.or_eq_false_iff, Bool.not_eq_false', decide_eq_true_eq, decide_eq_false_iff_not, eqNil] at hg; omega))
    apply hK; clear hK K
    refine awp_ret ?_
    try simp only [thenA_ret]
    refine retA_ret h (by repeat (first | exact Sub.refl _ | refine Sub.trans_set ?_ (by assumption))) (resPre_tmp (resPre_nil)) ?_
    simp (decide := true) only [Slots.get, if_true, and_true, resOf_one]
    rw [hr1]; rfl
  · try simp only [decide_eq_false_iff_not, Bool.and_eq_false_iff] at hb1
    refine awp_skip ?_
    change Awp _ _ _ _ _ _ _
    -- region 8  law.go:175
    refine awp_rseq [2, 9, 10, 11, 12, 17] (by rfl) fun K hK => ?_
    simp (decide := true) only [ev, putD, Slots.put, Slots.get, if_true, if_false, true_and, ↓ap_loadL, apL_mk, pLoad_agg ag28 sz28, ↓ap_move, pop_move, rd_ne', ne_eq, not_false_eq_true, ne_4q8_1q2.symm, ne_5q8_1q2.symm, ne_5q9_1q2.symm, rd_any, cellsAt, List.getD_cons_zero, List.getD_cons_succ, Nat.zero_add, Nat.reduceAdd, lv_bool, lv_int, lv_str, allLive, Bool.and_true]
    repeat (with_reducible refine And.intro ?_ ?_; · first | trivial | omega | (intro hg; simp only [Bool.and_eq_true, Bool.or_eq_true, Bool.not_eq_true', Bool.and_eq_false_iff, Bool.or_eq_false_iff, Bool.not_eq_false', decide_eq_true_eq, decide_eq_false_iff_not, eqNil] at hg; omega))
    refine aOps_callV (V := decA (chosenE d s mm)) (by rfl) (by rfl) (c_chosen w₀ _ d s mm sd dd s0 s1) ?_
    refine aOps_alloc ze28 (cs := [.bool false, .str [], .int .i64 0]) (by rfl) fun k8q4 hk8q4 => ?_
    have ne_8q4_0q0 : k8q4 ≠ k0q0 := by simp only [AHeap.set_none] at hk8q4; simp only [hk8q4, ne_eq, not_false_eq_true]
    have ne_8q4_0q1 : k8q4 ≠ k0q1 := by simp only [AHeap.set_none] at hk8q4; simp only [hk8q4, ne_eq, not_false_eq_true]
    have ne_8q4_1q2 : k8q4 ≠ k1q2 := by simp only [AHeap.set_none] at hk8q4; simp only [hk8q4, ne_eq, not_false_eq_true]
    have ne_8q4_4q8 : k8q4 ≠ k4q8 := by simp only [AHeap.set_none] at hk8q4; simp only [hk8q4, ne_eq, not_false_eq_true]
    have ne_8q4_5q8 : k8q4 ≠ k5q8 := by simp only [AHeap.set_none] at hk8q4; simp only [hk8q4, ne_eq, not_false_eq_true]
    have ne_8q4_5q9 : k8q4 ≠ k5q9 := by simp only [AHeap.set_none] at hk8q4; simp only [hk8q4, ne_eq, not_false_eq_true]
    try have hf_8q4 : h k8q4 = none := by first | assumption | (simp only [AHeap.set_none] at hk8q4; simp only [hk8q4])
    refine aOps_store (by rfl) (by rfl) (by repeat (first | exact AHeap.set_same _ _ _ | assumption | refine (AHeap.set_ne _ _ (by first | assumption | exact Ne.symm (by assumption))).trans ?_)) sz28 (by rfl) (by rfl) (by first | exact Nat.le_refl _ | decide | (simp; done) | (simp; omega)) (Nat.zero_le _) (by rfl) ?_
    simp only [AHeap.set_set, AVal.cells]
    simp (decide := true) only [aOps_nil, ev, putD, Slots.put, Slots.get, Slots.keep, if_true, if_false, setAt, List.set_cons_zero, List.set_cons_succ, Nat.zero_add, Nat.reduceAdd, decA]
    repeat (with_reducible refine And.intro ?_ ?_; · first | trivial | omega | (intro hg; simp only [Bool.and_eq_true, Bool.or_eq_true, Bool.not_eq_true', Bool.and_eq_false_iff, Bool.or_eq_false_iff, Bool.not_eq_false', decide_eq_true_eq, decide_eq_false_iff_not, eqNil] at hg; omega))
    apply hK; clear hK K
    refine awp_seq ?_
    -- region 9  law.go:176
    refine awp_rseq [2, 9, 10, 11, 12, 17, 67] (by rfl) fun K hK => ?_
    simp (decide := true) only [ev, putD, Slots.put, Slots.get, if_true, if_false, true_and, ↓ap_loadL, apL_mk, pLoad_agg ag28 sz28, rd_any, cellsAt, List.getD_cons_zero, List.getD_cons_succ, Nat.zero_add, Nat.reduceAdd, lv_bool, lv_int, lv_str, allLive, Bool.and_true]
    repeat (with_reducible refine And.intro ?_ ?_; · first | trivial | omega | (intro hg; simp only [Bool.and_eq_true, Bool.or_eq_true, Bool.not_eq_true', Bool.and_eq_false_iff, Bool.or_eq_false_iff, Bool.not_eq_false', decide_eq_true_eq, decide_eq_false_iff_not, eqNil] at hg; omega))
    refine aOps_callV (V := .int .i64 (long (chosenE d s mm))) (by rfl) (by rfl) (c_Long w₀ _ _) ?_
    simp (decide := true) only [aOps_nil, ev, absV, absS, putD, Slots.put, Slots.get, Slots.keep, if_true, if_false, true_and, ↓ap_binOp, pop_binOp, pBinX_int, pI_gtr]
    repeat (with_reducible refine And.intro ?_ ?_; · first | trivial | omega | (intro hg; simp only [Bool.and_eq_true, Bool.or_eq_true, Bool.not_eq_true', Bool.and_eq_false_iff, Bool.or_eq_false_iff, Bool.not_eq_false', decide_eq_true_eq, decide_eq_false_iff_not, eqNil] at hg; omega))
    apply hK; clear hK K
    refine awp_cond (b := _) rfl (fun hb2 => ?_) (fun hb2 => ?_)
    · try simp only [decide_eq_true_eq] at hb2
      have hr1 : roundE d s mm = (noD, 14) := by
       rw [hr]
       split
       · rename_i hb0
         exfalso
         have e : chosenE d s mm = d := by unfold chosenE; rw [if_pos hb0]
         rw [e] at hb2
         have := (val_canon hv).2
         omega
       · split
         · rfl
         · rw [resE, if_pos hb2]
      -- region 10  law.go:177
      refine awp_rseq [6] (by rfl) fun K hK => ?_
      simp (decide := true) only [ev, absV, absS, putD, Slots.put, Slots.get, if_true, if_false, true_and, ↓ap_move, pop_move, ↓ap_binOp, pop_binOp, pBinX_int, pI_eql, ↓ag_loadL, agQL_some, agL_mk, agP, agQ_some, nthDst, gKnown_bool, guardB_bool_true, implies_true, Bool.and_true, pLoad_agg ag28 sz28, ↓ag_build, ↓pop_buildL, bld28_, evP, List.map_nil, ↓ag_binOp, cv_binl, cv_binr, cp_binl, cp_binr, pBinX_agg, eq28, ↓ap_pick, pop_pick, pPick_bool, pickV_cond_l, pickV_and, rd_ne', ne_eq, not_false_eq_true, ne_5q8_4q8.symm, ne_5q9_4q8.symm, ne_8q4_4q8.symm, rd_any, cellsAt, List.getD_cons_zero, List.getD_cons_succ, Nat.zero_add, Nat.reduceAdd, lv_bool, lv_int, lv_str, allLive, Bool.and_true]
      repeat (with_reducible refine And.intro ?_ ?_; · first | trivial | omega | (intro hg; simp only [Bool.and_eq_true, Bool.or_eq_true, Bool.not_eq_true', Bool.and_eq_false_iff, Bool.or_eq_false_iff, Bool.not_eq_false', decide_eq_true_eq, decide_eq_false_iff_not, eqNil] at hg; omega))
      first
      | (refine aOps_yes (by rfl) ?_; refine aOps_callV (V := .bool true) (by rfl) (by rfl) (c_lives w₀ ht _) ?_)
      | (refine aOps_gcall (V := .bool true) (f := _) (cap := _) (xs := _) rfl (fun hg => ⟨rfl, ?_⟩) (fun hg => c_lives w₀ ht _) ?_; · (simp (decide := true) only [gv, nthDst, Slots.get, if_true, if_false, guardB_bool_true] at hg; simp (decide := true) only [evs, hg, List.append_nil, List.map_nil]))
      simp (decide := true) only [aOps_nil, ev, absV, absS, putD, Slots.put, Slots.get, Slots.keep, if_true, if_false, true_and, gv, nthDst, guardB_bool_true, ↓ap_pick, pop_pick, pPick_bool, pickV_cond_l, pickV_and, ↓ap_assign, pop_assign, Bool.and_true]
      repeat (with_reducible refine And.intro ?_ ?_; · first | trivial | omega | (intro hg; simp only [Bool.and_eq_true, Bool.or_eq_true, Bool.not_eq_true', Bool.and_eq_false_iff, Bool.or_eq_false_iff, Bool.not_eq_false', decide_eq_true_eq, decide_eq_false_iff_not, eqNil] at hg; omega))
      apply hK; clear hK K
      refine awp_ret ?_
      try simp only [thenA_ret]
      refine retA_ret h (by repeat (first | exact Sub.refl _ | refine Sub.trans_set ?_ (by assumption))) (resPre_tmp (resPre_nil)) ?_
      simp (decide := true) only [Slots.get, if_true, and_true, resOf_one]
      rw [hr1]; rfl
    · try simp only [decide_eq_false_iff_not] at hb2
      refine awp_skip ?_
      change Awp _ _ _ _ _ _ _
      refine awp_seq ?_
      -- region 11  law.go:179
      refine awp_rseq [2, 9, 10, 11, 84] (by rfl) fun K hK => ?_
      simp (decide := true) only [aOps_nil, ev, absV, absS, putD, Slots.put, Slots.get, Slots.keep, if_true, if_false, true_and, ↓ap_move, pop_move, ↓ap_binOp, pop_binOp, pBinX_int, pI_neq, ↓ag_loadL, agQL_some, agL_mk, agP, agQ_some, nthDst, gKnown_bool, guardB_bool_false, implies_true, Bool.not_not, Bool.and_true, pLoad_agg ag28 sz28, ↓ag_binOp, cv_binl, cv_binr, cp_binl, cp_binr, pBinX_agg, ne28, ↓ap_pick, pop_pick, pPick_bool, pickV_cond_rn, pickV_or, rd_ne', ne_eq, not_false_eq_true, ne_5q8_4q8.symm, ne_5q9_4q8.symm, ne_8q4_4q8.symm, rd_any, cellsAt, List.getD_cons_zero, List.getD_cons_succ, Nat.zero_add, Nat.reduceAdd, lv_bool, lv_int, lv_str, allLive, Bool.and_true]
      repeat (with_reducible refine And.intro ?_ ?_; · first | trivial | omega | (intro hg; simp only [Bool.and_eq_true, Bool.or_eq_true, Bool.not_eq_true', Bool.and_eq_false_iff, Bool.or_eq_false_iff, Bool.not_eq_false', decide_eq_true_eq, decide_eq_false_iff_not, eqNil] at hg; omega))
      apply hK; clear hK K
      refine awp_cond (b := _) rfl (fun hb3 => ?_) (fun hb3 => ?_)
      · try simp only [decide_eq_false_iff_not, Bool.not_eq_true', Bool.and_eq_false_iff, Bool.or_eq_true] at hb3
        -- region 12  law.go:180
        refine awp_rseq [6] (by rfl) fun K hK => ?_
        simp (decide := true) only [aOps_nil, ev, absV, absS, putD, Slots.put, Slots.keep, if_true, if_false, true_and, ↓ap_assign, pop_assign]
        repeat (with_reducible refine And.intro ?_ ?_; · first | trivial | omega | (intro hg; simp only [Bool.and_eq_true, Bool.or_eq_true, Bool.not_eq_true', Bool.and_eq_false_iff, Bool.or_eq_false_iff, Bool.not_eq_false', decide_eq_true_eq, decide_eq_false_iff_not, eqNil] at hg; omega))
        apply hK; clear hK K
        refine awp_ret ?_
        try simp only [thenA_ret]
        refine retA_ret h (by repeat (first | exact Sub.refl _ | refine Sub.trans_set ?_ (by assumption))) (resPre_tmp (resPre_nil)) ?_
        simp (decide := true) only [Slots.get, if_true, and_true, resOf_one]
        exfalso; rw [(hrr hb1 hb2).1] at hb3; simp at hb3
      · try simp only [decide_eq_true_eq, Bool.not_eq_false', Bool.and_eq_true, Bool.or_eq_false_iff] at hb3
        refine awp_skip ?_
        change Awp _ _ _ _ _ _ _
        -- region 13  law.go:182
        refine awp_rseq [11, 18, 19] (by rfl) fun K hK => ?_
        simp (decide := true) only [ev, absV, absS, putD, Slots.put, Slots.get, if_true, if_false, true_and, ↓ap_loadL, apL_mk, pLoad_agg ag28 sz28, ↓ap_move, pop_move, ↓ap_binOp, pop_binOp, pBinX_int, pI_quo, ↓ap_convert _ _ _ (es_int Tryd.underlying5 Tryd.underlying3), pop_convert, pConv_int Tryd.underlying5 Tryd.underlying3, pI_add, pI_rem, ↓ap_convert _ _ _ (es_int Tryd.underlying3 Tryd.underlying35), pConv_int Tryd.underlying3 Tryd.underlying35, rd_ne', ne_eq, not_false_eq_true, ne_5q8_4q8.symm, ne_5q9_4q8.symm, ne_8q4_4q8.symm, rd_any, cellsAt, List.getD_cons_zero, List.getD_cons_succ, Nat.zero_add, Nat.reduceAdd, lv_bool, lv_int, lv_str, allLive, Bool.and_true]
        try simp (disch := omega) only [Int.tmod_eq_emod_of_nonneg, Int.tdiv_eq_ediv_of_nonneg, wrap_i64, wrap_u8]
        repeat (with_reducible refine And.intro ?_ ?_; · first | trivial | omega | (intro hg; simp only [Bool.and_eq_true, Bool.or_eq_true, Bool.not_eq_true', Bool.and_eq_false_iff, Bool.or_eq_false_iff, Bool.not_eq_false', decide_eq_true_eq, decide_eq_false_iff_not, eqNil] at hg; omega))
        refine aOps_callV (V := .tuple [decA (chosenE d s mm), .int .i64 0]) (by rfl) (by rfl) ((c_Round w₀ _ (roundE d s mm).1 s ((mm + (m.toNat : Int) / 8) % 8) (by rw [(hrr hb1 hb2).1]; exact check_len (hrr hb1 hb2).2.2) (by omega) (by omega) (by omega)).val (by rw [(hrr hb1 hb2).1, (hrr hb1 hb2).2.1])) ?_
        simp (decide := true) only [ev, putD, Slots.put, Slots.get, if_true, if_false, true_and, ↓ap_move, pop_move, ↓ap_extract, pop_extract, pExt_tuple, List.length_cons, List.length_nil, List.getD_cons_zero, List.getD_cons_succ, List.getD_cons_zero, List.getD_cons_succ, Nat.zero_add, Nat.reduceAdd, decA]
        repeat (with_reducible refine And.intro ?_ ?_; · first | trivial | omega | (intro hg; simp only [Bool.and_eq_true, Bool.or_eq_true, Bool.not_eq_true', Bool.and_eq_false_iff, Bool.or_eq_false_iff, Bool.not_eq_false', decide_eq_true_eq, decide_eq_false_iff_not, eqNil] at hg; omega))
        refine aOps_alloc ze28 (cs := [.bool false, .str [], .int .i64 0]) (by rfl) fun k13q13 hk13q13 => ?_
        have ne_13q13_0q0 : k13q13 ≠ k0q0 := by simp only [AHeap.set_none] at hk13q13; simp only [hk13q13, ne_eq, not_false_eq_true]
        have ne_13q13_0q1 : k13q13 ≠ k0q1 := by simp only [AHeap.set_none] at hk13q13; simp only [hk13q13, ne_eq, not_false_eq_true]
        have ne_13q13_1q2 : k13q13 ≠ k1q2 := by simp only [AHeap.set_none] at hk13q13; simp only [hk13q13, ne_eq, not_false_eq_true]
        have ne_13q13_4q8 : k13q13 ≠ k4q8 := by simp only [AHeap.set_none] at hk13q13; simp only [hk13q13, ne_eq, not_false_eq_true]
        have ne_13q13_5q8 : k13q13 ≠ k5q8 := by simp only [AHeap.set_none] at hk13q13; simp only [hk13q13, ne_eq, not_false_eq_true]
        have ne_13q13_5q9 : k13q13 ≠ k5q9 := by simp only [AHeap.set_none] at hk13q13; simp only [hk13q13, ne_eq, not_false_eq_true]
        have ne_13q13_8q4 : k13q13 ≠ k8q4 := by simp only [AHeap.set_none] at hk13q13; simp only [hk13q13, ne_eq, not_false_eq_true]
        try have hf_13q13 : h k13q13 = none := by first | assumption | (simp only [AHeap.set_none] at hk13q13; simp only [hk13q13])
        refine aOps_store (by rfl) (by rfl) (by repeat (first | exact AHeap.set_same _ _ _ | assumption | refine (AHeap.set_ne _ _ (by first | assumption | exact Ne.symm (by assumption))).trans ?_)) sz28 (by rfl) (by rfl) (by first | exact Nat.le_refl _ | decide | (simp; done) | (simp; omega)) (Nat.zero_le _) (by rfl) ?_
        simp only [AHeap.set_set, AVal.cells]
        simp (decide := true) only [aOps_nil, ev, putD, Slots.put, Slots.get, Slots.keep, if_true, if_false, true_and, ↓ap_assign, pop_assign, setAt, List.set_cons_zero, List.set_cons_succ, Nat.zero_add, Nat.reduceAdd]
        repeat (with_reducible refine And.intro ?_ ?_; · first | trivial | omega | (intro hg; simp only [Bool.and_eq_true, Bool.or_eq_true, Bool.not_eq_true', Bool.and_eq_false_iff, Bool.or_eq_false_iff, Bool.not_eq_false', decide_eq_true_eq, decide_eq_false_iff_not, eqNil] at hg; omega))
        apply hK; clear hK K
        -- region 14  law.go:183
        refine awp_rseq [6] (by rfl) fun K hK => ?_
        simp (decide := true) only [ev, absV, absS, putD, Slots.put, Slots.get, if_true, if_false, true_and, ↓ap_move, pop_move, ↓ap_binOp, pop_binOp, pBinX_int, pI_eql, ↓ag_loadL, agQL_some, agL_mk, agP, agQ_some, nthDst, gKnown_bool, guardB_bool_true, implies_true, decide_true, condV_true, Bool.and_true, Bool.true_and, pLoad_agg ag28 sz28, ↓ag_binOp, pBinX_agg, eq28, ↓ap_pick, pop_pick, pPick_bool, pickV_and, rd_ne', ne_eq, not_false_eq_true, ne_5q8_4q8.symm, ne_5q9_4q8.symm, ne_8q4_4q8.symm, ne_13q13_4q8.symm, rd_any, cellsAt, List.getD_cons_zero, List.getD_cons_succ, Nat.zero_add, Nat.reduceAdd, lv_bool, lv_int, lv_str, allLive, Bool.and_true]
        repeat (with_reducible refine And.intro ?_ ?_; · first | trivial | omega | (intro hg; simp only [Bool.and_eq_true, Bool.or_eq_true, Bool.not_eq_true', Bool.and_eq_false_iff, Bool.or_eq_false_iff, Bool.not_eq_false', decide_eq_true_eq, decide_eq_false_iff_not, eqNil] at hg; omega))
        first
        | (refine aOps_yes (by rfl) ?_; refine aOps_callV (V := .bool true) (by rfl) (by rfl) (c_lives w₀ ht _) ?_)
        | (refine aOps_gcall (V := .bool true) (f := _) (cap := _) (xs := _) rfl (fun hg => ⟨rfl, ?_⟩) (fun hg => c_lives w₀ ht _) ?_; · (simp (decide := true) only [gv, nthDst, Slots.get, if_true, if_false, guardB_bool_true] at hg; simp (decide := true) only [evs, hg, List.append_nil, List.map_nil]))
        simp (decide := true) only [aOps_nil, ev, absV, absS, putD, Slots.put, Slots.get, Slots.keep, if_true, if_false, true_and, gv, nthDst, guardB_bool_true, ↓ap_pick, pop_pick, pPick_bool, pickV_cond_l, pickV_and, ↓ap_assign, pop_assign, Bool.and_true]
        repeat (with_reducible refine And.intro ?_ ?_; · first | trivial | omega | (intro hg; simp only [Bool.and_eq_true, Bool.or_eq_true, Bool.not_eq_true', Bool.and_eq_false_iff, Bool.or_eq_false_iff, Bool.not_eq_false', decide_eq_true_eq, decide_eq_false_iff_not, eqNil] at hg; omega))
        apply hK; clear hK K
        refine awp_ret ?_
        try simp only [thenA_ret, inBlockA_ret]
        refine retA_ret h (by repeat (first | exact Sub.refl _ | refine Sub.trans_set ?_ (by assumption))) (resPre_tmp (resPre_nil)) ?_
        simp (decide := true) only [Slots.get, if_true, and_true, resOf_one]
        rw [(hrr hb1 hb2).1]; simp
end Go.Proofs.YtnaioficflbioaaDoor
