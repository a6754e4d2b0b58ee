/-
  Texts of this proof, joined: CoG, CoH, CoI, CoJ, CoK, LbA, LbB.
  Conditions: none.
-/
import Derived.Test.YtikpnhdjjabdmaaDoorCc
import Derived.Test.YtikpnhdjjabdmaaDoorCb
set_option linter.unusedSimpArgs false
set_option linter.unnecessarySimpa false
set_option linter.unusedVariables false
/-
  Contracts: the reader of the package columns: take, walked.
  Conditions: none.
-/
namespace Go.Proofs.YtikpnhdjjabdmaaDoor
open Go.AM
open Go.Proofs
open Go.Col
set_option maxRecDepth 100000

theorem take1 {x : Rd} {r : RowC} (h1 : r.more = false) (h2 : x.odd = true) : takeE x r = (x, ⟨4, x.line, x.col⟩) := by unfold takeE; rw [h1, h2]; rfl
theorem take2 {x : Rd} {r : RowC} (h1 : r.more = false) (h2 : x.odd = false) : takeE x r = (addE ⟨x.cards ++ [⟨decide (r.col < 12), [], []⟩], x.line, x.col, x.odd⟩ r.line r.col r.text, okF) := by unfold takeE; rw [h1, h2]; rfl
theorem take3 {x : Rd} {r : RowC} (h1 : r.more = true) (h2 : x.cards = []) : takeE x r = (x, ⟨6, r.line, 7⟩) := by unfold takeE; rw [h1, if_neg (by simp), if_neg (by simp), if_pos h2]
theorem take4 {x : Rd} {r : RowC} (h1 : r.more = true) (h2 : x.cards ≠ []) (h3 : r.col < 12 ∨ (x.odd = true ∧ r.text.getD 0 0 ≠ 34)) : takeE x r = (x, ⟨4, r.line, r.col⟩) := by unfold takeE; rw [h1, if_neg (by simp), if_neg (by simp), if_neg h2, if_pos h3]
theorem take5 {x : Rd} {r : RowC} (h1 : r.more = true) (h2 : x.cards ≠ []) (h3 : ¬ (r.col < 12 ∨ (x.odd = true ∧ r.text.getD 0 0 ≠ 34))) (h4 : x.odd = true) : takeE x r = (addE x r.line (r.col + 1) (r.text.drop 1), okF) := by unfold takeE; rw [h1, if_neg (by simp), if_neg (by simp), if_neg h2, if_neg h3, if_pos h4]
theorem take6 {x : Rd} {r : RowC} (h1 : r.more = true) (h2 : x.cards ≠ []) (h3 : ¬ (r.col < 12 ∨ (x.odd = true ∧ r.text.getD 0 0 ≠ 34))) (h4 : x.odd = false) : takeE x r = (addE x r.line r.col r.text, okF) := by unfold takeE; rw [h1, if_neg (by simp), if_neg (by simp), if_neg h2, if_neg h3, if_neg (by rw [h4]; decide)]
theorem c_take (w₀ : World) (h : AHeap) (kx : Nat) (B M : AHeap) (cb mb : Option Buf) (x : Rd) (hi : RdInv w₀ h kx B M cb mb x) (r : RowC) (hb : ∀ c ∈ x.cards, c.text.length ≤ 549755813887 ∧ c.marks.length ≤ 549755813887) (hn : x.cards.length ≤ 549755813887) (ht : r.text.length ≤ 80) (ht0 : r.text ≠ []) (hc0 : 0 ≤ r.col) (hc1 : r.col ≤ 80) :
    ACall Tryd.prog w₀ 32 [.ptr (.own kx) 0, rowA r] (rdH kx B cb mb x)
      (fun v h' => v = faultA (takeE x r).2 ∧ ∃ B' M' cb' mb', h' = rdH kx B' cb' mb' (takeE x r).1 ∧ RdInv w₀ h kx B' M' cb' mb' (takeE x r).1 ∧ Sub B B' ∧ ∀ j, B j ≠ none → M j = none → M' j = none) := by
  have hlvc := bufV_live 3 cb
  have hmany := hi.many
  have hlen := buf_len Tryd.prog Tryd.underlying30 3 cb
  rw [hmany] at hlen
  have htp : 0 < r.text.length := List.length_pos_iff.2 ht0
  refine acall_intro (n := 100) (rs := [.cell 4 34]) Tryd.func32 rfl rfl rfl rfl (Nat.le_of_ble_eq_true rfl) ?_
  simp only [initSlots]
  -- region 0  columns.go:102
  refine awp_rseq [0, 3, 4] (by rfl) fun K hK => ?_
  refine aOps_box (by rfl) (by rfl) (by rfl) fun k0q0 hk0q0 => ?_
  try have hf_0q0 : (rdH kx B cb mb x) k0q0 = none := by first | assumption | (simp only [AHeap.set_none] at hk0q0; simp only [hk0q0])
  skip
  refine aOps_alloc ze34 (cs := [.int .i64 0, .int .i64 0, .int .i64 0]) (by rfl) fun k0q1 hk0q1 => ?_
  have ne_0q1_0q0 : k0q1 ≠ k0q0 := by simp only [AHeap.set_none] at hk0q1; simp only [hk0q1, ne_eq, not_false_eq_true]
  try have hf_0q1 : (rdH kx B cb mb x) k0q1 = none := by first | assumption | (simp only [AHeap.set_none] at hk0q1; simp only [hk0q1])
  simp (decide := true) only [aOps_nil, ev, putD, Slots.put, Slots.get, Slots.keep, if_true, if_false, AVal.cells, Nat.zero_add, rowA]
  obtain ⟨a1, a2, a3, a4⟩ := rdH_new hi hk0q0 ⟨[.int .i64 r.line, .bool r.more, .str r.text, .int .i64 r.col], 0⟩
  have hk1' : rdH kx (B.set k0q0 ⟨[.int .i64 r.line, .bool r.more, .str r.text, .int .i64 r.col], 0⟩) cb mb x k0q1 = none := by rw [← a1]; exact hk0q1
  obtain ⟨b1, b2, b3, b4⟩ := rdH_new a2 hk1' ⟨[.int .i64 0, .int .i64 0, .int .i64 0], 0⟩
  have hheap : ((rdH kx B cb mb x).set k0q0 ⟨[.int .i64 r.line, .bool r.more, .str r.text, .int .i64 r.col], 0⟩).set k0q1 ⟨[.int .i64 0, .int .i64 0, .int .i64 0], 0⟩ = rdH kx ((B.set k0q0 ⟨[.int .i64 r.line, .bool r.more, .str r.text, .int .i64 r.col], 0⟩).set k0q1 ⟨[.int .i64 0, .int .i64 0, .int .i64 0], 0⟩) cb mb x := by rw [a1, b1]
  have hat : (((rdH kx B cb mb x).set k0q0 ⟨[.int .i64 r.line, .bool r.more, .str r.text, .int .i64 r.col], 0⟩).set k0q1 ⟨[.int .i64 0, .int .i64 0, .int .i64 0], 0⟩) kx = some ⟨rdCells cb x, 0⟩ := by rw [hheap]; exact b2.at
  have hrx := fun o => rd_own w₀ hat o
  apply hK; clear hK K
  refine awp_seq ?_
  refine awp_block ?_
  -- region 2  columns.go:104
  refine awp_rseq [0, 3, 4, 13] (by rfl) fun K hK => ?_
  simp (decide := true) only [aOps_nil, ev, absV, absS, putD, Slots.put, Slots.get, Slots.keep, if_true, if_false, true_and, ↓ap_fieldAddr, pop_fieldAddr, fa73_1, ↓ap_loadL, apL_mk, pLoad_one ag4, ↓ap_unOp, pop_unOp, pU_not, ↓ap_move, pop_move, ↓ag_move, agP, agQ_some, nthDst, gKnown_bool, guardB_bool_true, implies_true, ↓ag_nilCheck, pop_nilCheck, pNil_ptr, cv_nil, cp_nil, ↓ag_fieldAddr, fa71_2, cv_fieldAddr, cp_fieldAddr, ↓ag_loadL, agQL_some, agL_mk, agL_ld1, ↓ap_pick, pop_pick, pPick_bool, pickV_cond_l, pickV_and, ↓ap_assign, pop_assign, rd_ne', ne_eq, not_false_eq_true, ne_0q1_0q0.symm, rd_any, List.getD_cons_zero, List.getD_cons_succ, Nat.zero_add, lv_bool, hrx, rdCells]
  try simp (disch := omega) only [wrap_i64, wrap_u8]
  repeat (with_reducible refine And.intro ?_ ?_; · first | trivial | omega | (intro hg; simp only [Bool.and_eq_true, Bool.or_eq_true, Bool.not_eq_true', Bool.and_eq_false_iff, Bool.or_eq_false_iff, Bool.not_eq_false', decide_eq_true_eq, decide_eq_false_iff_not, eqNil] at hg; omega) )
  apply hK; clear hK K
  refine awp_cond (b := _) rfl (fun hb1 => ?_) (fun hb1 => ?_)
  · try simp only [Bool.not_eq_true', Bool.and_eq_true] at hb1
    -- region 3  columns.go:105
    refine awp_rseq [4] (by rfl) fun K hK => ?_
    simp (decide := true) only [ev, absV, absS, putD, Slots.put, Slots.get, if_true, if_false, true_and, ↓ap_move, pop_move, ↓ap_nilCheck, pop_nilCheck, pNil_ptr, ↓ap_fieldAddr, pop_fieldAddr, fa71_1, ↓ap_loadL, apL_mk, pLoad_agg ag32 sz32, ↓ap_build, ↓pop_buildL, bld34_0_1, evP, List.map_cons, List.map_nil, cellsAt, List.getD_cons_zero, List.getD_cons_succ, Nat.zero_add, Nat.reduceAdd, lv_int, allLive, Bool.and_true, hrx, rdCells]
    repeat (with_reducible refine And.intro ?_ ?_; · first | trivial | omega | (intro hg; simp only [Bool.and_eq_true, Bool.or_eq_true, Bool.not_eq_true', Bool.and_eq_false_iff, Bool.or_eq_false_iff, Bool.not_eq_false', decide_eq_true_eq, decide_eq_false_iff_not, eqNil] at hg; omega) )
    refine aOps_store (by rfl) (by rfl) (by repeat (first | exact AHeap.set_same _ _ _ | assumption | refine (AHeap.set_ne _ _ (by first | assumption | exact Ne.symm (by assumption))).trans ?_)) sz34 (by rfl) (by rfl) (by first | exact Nat.le_refl _ | decide | (simp; done) | (simp; omega)) (Nat.zero_le _) (by rfl) ?_
    simp only [AHeap.set_set, AVal.cells]
    simp (decide := true) only [aOps_nil, ev, putD, Slots.get, Slots.keep, if_true, if_false, setAt, List.set_cons_zero, List.set_cons_succ, Nat.zero_add, Nat.reduceAdd]
    repeat (with_reducible refine And.intro ?_ ?_; · first | trivial | omega | (intro hg; simp only [Bool.and_eq_true, Bool.or_eq_true, Bool.not_eq_true', Bool.and_eq_false_iff, Bool.or_eq_false_iff, Bool.not_eq_false', decide_eq_true_eq, decide_eq_false_iff_not, eqNil] at hg; omega) )
    apply hK; clear hK K
    refine awp_ret ?_
    try simp only [thenA_ret, inBlockA_ret]
    refine retA_ret (rdH kx B cb mb x) (by repeat (first | exact Sub.refl _ | assumption | refine Sub.trans_set ?_ (by assumption))) (?_) ?_
    · simp (decide := true) only [resPre, resV_cell, Slots.get, if_true, and_true, resV_cell, pLoad_agg ag34 sz34, rd_set, cellsAt, List.getD_cons_zero, List.getD_cons_succ, Nat.zero_add, Nat.reduceAdd, lv_int, allLive, Bool.and_true, cellsAt, List.getD_cons_zero, List.getD_cons_succ, Nat.zero_add, Nat.reduceAdd, lv_int, allLive, Bool.and_true]
    
    simp (decide := true) only [Slots.get, if_true, resOfG_one, resV_cell, pLoad_agg ag34 sz34, rd_set, cellsAt, List.getD_cons_zero, List.getD_cons_succ, Nat.zero_add, Nat.reduceAdd, lv_int, allLive, Bool.and_true, ne_eq, cellsAt, List.getD_cons_zero, List.getD_cons_succ, Nat.zero_add, Nat.reduceAdd, lv_int, allLive, Bool.and_true, faultA]
    rw [take1 hb1.1 hb1.2]
    exact ⟨rfl, B, M, cb, mb, rfl, hi, Sub.refl _, fun _ _ h => h⟩
  · try simp only [Bool.not_eq_false', Bool.and_eq_false_iff] at hb1
    -- region 4  columns.go:106
    refine awp_rseq [0, 3, 4, 28] (by rfl) fun K hK => ?_
    simp (decide := true) only [aOps_nil, ev, putD, Slots.put, Slots.get, Slots.keep, if_true, if_false, true_and, ↓ap_fieldAddr, pop_fieldAddr, fa73_1, ↓ap_loadL, apL_mk, pLoad_one ag4, ↓ap_unOp, pop_unOp, pU_not, ↓ap_assign, pop_assign, rd_ne', ne_eq, not_false_eq_true, ne_0q1_0q0.symm, rd_any, List.getD_cons_zero, List.getD_cons_succ, Nat.zero_add, lv_bool]
    try simp (disch := omega) only [wrap_i64, wrap_u8]
    repeat (with_reducible refine And.intro ?_ ?_; · first | trivial | omega | (intro hg; simp only [Bool.and_eq_true, Bool.or_eq_true, Bool.not_eq_true', Bool.and_eq_false_iff, Bool.or_eq_false_iff, Bool.not_eq_false', decide_eq_true_eq, decide_eq_false_iff_not, eqNil] at hg; omega) )
    apply hK; clear hK K
    refine awp_cond (b := _) rfl (fun hb2 => ?_) (fun hb2 => ?_)
    · try simp only [Bool.not_eq_true'] at hb2
      rw [hheap]
      obtain ⟨B₁, hB₁⟩ : ∃ B₁, B₁ = (B.set k0q0 ⟨[.int .i64 r.line, .bool r.more, .str r.text, .int .i64 r.col], 0⟩).set k0q1 ⟨[.int .i64 0, .int .i64 0, .int .i64 0], 0⟩ := ⟨_, rfl⟩
      rw [← hB₁] at b2 ⊢
      have e0 : B₁ k0q0 = some ⟨[.int .i64 r.line, .bool r.more, .str r.text, .int .i64 r.col], 0⟩ := by rw [hB₁, AHeap.set_ne _ _ ne_0q1_0q0.symm, AHeap.set_same]
      have e1 : B₁ k0q1 = some ⟨[.int .i64 0, .int .i64 0, .int .i64 0], 0⟩ := by rw [hB₁, AHeap.set_same]
      have s0 := fun o => rd_own w₀ (b2.other e0) o
      have sx := fun o => rd_own w₀ b2.at o
      obtain ⟨q1, q2, q3⟩ := bufSwap b2.okc b2.okm
      obtain ⟨zs, z1, z2, z3⟩ := b2.chunks
      -- region 5  columns.go:107
      refine awp_dseq_F 10 [0] [0, 3, 4] mixed (by kernel_rfl) (by rfl) fun K hK => ?_
      simp only [List.take_succ_cons, List.take_zero, List.drop_succ_cons, List.drop_zero]
      simp (decide := true) only [ev, absV, absS, putD, Slots.put, Slots.get, if_true, if_false, true_and, ↓fp_move, pop_move, ↓fp_nilCheck, pop_nilCheck, pNil_ptr, ↓fp_fieldAddr, pop_fieldAddr, fa71_0, ↓fp_load, pop_load, pLoad_one ag30, fa73_3, pLoad_one ag3, ↓fp_binOp, pop_binOp, isNilC_int, cond_false, pBinX_int, pI_lss, ↓fp_build, ↓pop_buildL, bld39_0, evP, List.map_cons, List.map_nil, List.getD_cons_zero, List.getD_cons_succ, Nat.zero_add, lv_int, rdCells, hlvc, s0, sx]
      repeat (with_reducible refine And.intro ?_ ?_; · first | trivial | omega | (intro hg; simp only [Bool.and_eq_true, Bool.or_eq_true, Bool.not_eq_true', Bool.and_eq_false_iff, Bool.or_eq_false_iff, Bool.not_eq_false', decide_eq_true_eq, decide_eq_false_iff_not, eqNil] at hg; omega) )
      refine fOps_lay (by rfl) ?_
      refine aOps_buildSlice (cs := [.bool (decide (r.col < 12)), .str [], .nilSlice]) (by kernel_rfl) fun k5q9 hk5q9 => ?_
      try have hf_5q9 : (rdH kx B cb mb x) k5q9 = none := by first | assumption | (simp only [AHeap.set_none] at hk5q9; simp only [hk5q9])
      rw [aOps_nil]
      repeat (with_reducible refine And.intro ?_ ?_; · first | trivial | omega | (intro hg; simp only [Bool.and_eq_true, Bool.or_eq_true, Bool.not_eq_true', Bool.and_eq_false_iff, Bool.or_eq_false_iff, Bool.not_eq_false', decide_eq_true_eq, decide_eq_false_iff_not, eqNil] at hg; omega) )
      try simp only [fOps_nil]
      refine aOps_appendL (es := 3) (zs := zs) (xs := [[.bool (decide (r.col < 12)), .str [], .nilSlice]]) (h₀ := bufH (B₁.set kx ⟨rdCells cb x, 0⟩) mb) (b := cb) (by rfl) (by rfl) Tryd.underlying30 Tryd.underlying30 (fun k e => by cases e) sz39 by39 ze39 (by rfl) (by decide) (by rfl) q3 z1 z2 (by rw [← q1]; exact Sub.set hk5q9) (by rfl) (IsL.own (AHeap.set_same _ _ _) (by simp) (by rfl) (by rfl) (.exact 1) (Nat.le_refl _)) (by rfl) (by simp; omega) (by simp; omega) fun cb' h5 o1 o2 o3 => ?_
      have hlv' := bufV_live 3 cb'
      simp (decide := true) only [ev, putD, Slots.put, Slots.get, if_true, if_false, true_and, ↓ap_nilCheck, pop_nilCheck, pNil_ptr, ↓ap_fieldAddr, pop_fieldAddr, fa71_0, Nat.zero_add]
      repeat (with_reducible refine And.intro ?_ ?_; · first | trivial | omega | (intro hg; simp only [Bool.and_eq_true, Bool.or_eq_true, Bool.not_eq_true', Bool.and_eq_false_iff, Bool.or_eq_false_iff, Bool.not_eq_false', decide_eq_true_eq, decide_eq_false_iff_not, eqNil] at hg; omega) )
      refine aOps_store (v := bufV 3 cb') (by rfl) (by rfl) (o3 _ _ (bufAt o1 (bufAt q2 (AHeap.set_same _ _ _)))) sz30 hlv' (by cases cb' <;> rfl) (by cases cb' <;> simp [rdCells, bufV]) (Nat.zero_le _) (by cases cb' <;> rfl) ?_
      rw [show (bufV 3 cb').cells = [bufV 3 cb'] by cases cb' <;> rfl]
      simp only [setAt, rdCells, List.set_cons_zero]
      simp (decide := true) only [aOps_nil, putD, Slots.keep, if_true, if_false]
      repeat (with_reducible refine And.intro ?_ ?_; · first | trivial | omega | (intro hg; simp only [Bool.and_eq_true, Bool.or_eq_true, Bool.not_eq_true', Bool.and_eq_false_iff, Bool.or_eq_false_iff, Bool.not_eq_false', decide_eq_true_eq, decide_eq_false_iff_not, eqNil] at hg; omega) )
      apply hK; clear hK K
      obtain ⟨i1, u1, u2, u3⟩ := b2.push (decide (r.col < 12)) o1 (by rw [o2, List.flatten_append, ← z1]; rfl) o3
      refine Awp.forget (h' := rdH kx (bufH B₁ mb) cb' none ⟨x.cards ++ [⟨decide (r.col < 12), [], []⟩], x.line, x.col, x.odd⟩) u1 ?_
      have t0 := fun o => rd_own w₀ (i1.other (u2 _ _ e0)) o
      have hb' : ∀ c ∈ x.cards ++ [⟨decide (r.col < 12), [], []⟩], c.text.length ≤ 549755813888 ∧ c.marks.length ≤ 549755813888 := by
        intro c hc
        rw [List.mem_append] at hc
        rcases hc with hc | hc
        · have := hb c hc
          omega
        · rw [List.mem_singleton.1 hc]
          exact ⟨by simp, by simp⟩
      -- region 6  columns.go:108
      refine awp_r [4] (by rfl) ?_
      simp (decide := true) only [ev, putD, Slots.put, Slots.get, if_true, if_false, true_and, ↓ap_move, pop_move, ↓ap_fieldAddr, pop_fieldAddr, fa73_0, ↓ap_loadL, apL_mk, pLoad_one ag3, fa73_3, fa73_2, pLoad_one ag9, ne_eq, List.getD_cons_zero, List.getD_cons_succ, Nat.zero_add, lv_int, lv_str, faultA, t0]
      repeat (with_reducible refine And.intro ?_ ?_; · first | trivial | omega | (intro hg; simp only [Bool.and_eq_true, Bool.or_eq_true, Bool.not_eq_true', Bool.and_eq_false_iff, Bool.or_eq_false_iff, Bool.not_eq_false', decide_eq_true_eq, decide_eq_false_iff_not, eqNil] at hg; omega) )
      refine aOps_call (by rfl) (by rfl) (c_addR w₀ h kx _ _ cb' none _ i1 (by simp) r.line r.col r.text hb' (by simp; omega) ht) fun x6q7 h6q7 hx6q7 => ?_
      obtain ⟨-, cb2, mb2, rfl, i2⟩ := hx6q7
      have hz := i2.other (u2 _ _ e1)
      have hsB : Sub B (bufH B₁ mb) := fun j c hj => u2 _ _ (by rw [hB₁]; exact Sub.trans_set (Sub.trans_set (Sub.refl _) a4) (by rwa [AHeap.set_ne _ _ ne_0q1_0q0] at b4) j c hj)
      have hsM : ∀ j, B j ≠ none → M j = none → bufH M mb j = none := fun j hj hM => by
        cases hjc : B j with
        | none => exact absurd hjc hj
        | some c => exact u3 j c (by rw [hB₁]; exact Sub.trans_set (Sub.trans_set (Sub.refl _) a4) (by rwa [AHeap.set_ne _ _ ne_0q1_0q0] at b4) j c hjc) hM
      have hfin := take2 (x := x) (r := r) (by simpa using hb2) (by simpa [hb2] using hb1)
      simp (decide := true) only [aOps_nil, putD, Slots.put, Slots.keep, if_true, if_false]
      repeat (with_reducible refine And.intro ?_ ?_; · first | trivial | omega | (intro hg; simp only [Bool.and_eq_true, Bool.or_eq_true, Bool.not_eq_true', Bool.and_eq_false_iff, Bool.or_eq_false_iff, Bool.not_eq_false', decide_eq_true_eq, decide_eq_false_iff_not, eqNil] at hg; omega) )
      change Awp _ _ _ _ _ _ _
      -- region 13  columns.go:118
      refine awp_rseq [4] (by rfl) fun K hK => ?_
      simp (decide := true) only [ev, absV, absS, putD, Slots.put, Slots.get, if_false, true_and, ↓ap_build, ↓pop_buildL, bld34_, evP, List.map_nil]
      repeat (with_reducible refine And.intro ?_ ?_; · first | trivial | omega | (intro hg; simp only [Bool.and_eq_true, Bool.or_eq_true, Bool.not_eq_true', Bool.and_eq_false_iff, Bool.or_eq_false_iff, Bool.not_eq_false', decide_eq_true_eq, decide_eq_false_iff_not, eqNil] at hg; omega) )
      refine aOps_store (v := .agg [.int .i64 0, .int .i64 0, .int .i64 0]) (by rfl) (by rfl) hz sz34 (by rfl) (by rfl) (by simp []) (Nat.zero_le _) (by rfl) ?_
      simp only [setAt, AVal.cells, List.set_cons_zero, List.set_cons_succ, Nat.zero_add, Nat.reduceAdd]
      rw [set_same_self hz]
      simp (decide := true) only [aOps_nil, putD, Slots.keep, if_true, if_false]
      repeat (with_reducible refine And.intro ?_ ?_; · first | trivial | omega | (intro hg; simp only [Bool.and_eq_true, Bool.or_eq_true, Bool.not_eq_true', Bool.and_eq_false_iff, Bool.or_eq_false_iff, Bool.not_eq_false', decide_eq_true_eq, decide_eq_false_iff_not, eqNil] at hg; omega) )
      apply hK; clear hK K
      refine awp_ret ?_
      try simp only [thenA_ret, inBlockA_ret]
      refine retA_retE (?_) ?_
      · simp (decide := true) only [resPre, resV_cell, Slots.get, if_true, and_true, resV_cell, pLoad_agg ag34 sz34, cellsAt, List.getD_cons_zero, List.getD_cons_succ, Nat.zero_add, Nat.reduceAdd, lv_int, allLive, Bool.and_true, cellsAt, List.getD_cons_zero, List.getD_cons_succ, Nat.zero_add, Nat.reduceAdd, lv_int, allLive, Bool.and_true, rd_own w₀ hz]
      
      simp (decide := true) only [Slots.get, if_true, resOfG_one, resV_cell, pLoad_agg ag34 sz34, cellsAt, List.getD_cons_zero, List.getD_cons_succ, Nat.zero_add, Nat.reduceAdd, lv_int, allLive, Bool.and_true, cellsAt, List.getD_cons_zero, List.getD_cons_succ, Nat.zero_add, Nat.reduceAdd, lv_int, allLive, Bool.and_true, rd_own w₀ hz]
      refine ⟨_, Sub.refl _, ?_⟩
      rw [hfin]
      exact ⟨rfl, _, _, _, _, rfl, i2, hsB, hsM⟩
    · try simp only [Bool.not_eq_false'] at hb2
      -- region 7  columns.go:109
      refine awp_rseq [0, 3, 4, 53] (by rfl) fun K hK => ?_
      simp (decide := true) only [aOps_nil, ev, absV, absS, putD, Slots.put, Slots.get, Slots.keep, if_true, if_false, true_and, ↓ap_move, pop_move, ↓ap_nilCheck, pop_nilCheck, pNil_ptr, ↓ap_fieldAddr, pop_fieldAddr, fa71_0, ↓ap_loadL, apL_mk, pLoad_one ag30, ↓ap_len, pop_len, ↓ap_binOp, pop_binOp, isNilC_int, cond_false, pBinX_int, pI_eql, ↓ap_assign, pop_assign, List.getD_cons_zero, Nat.zero_add, hrx, rdCells, hlvc, hlen]
      repeat (with_reducible refine And.intro ?_ ?_; · first | trivial | omega | (intro hg; simp only [Bool.and_eq_true, Bool.or_eq_true, Bool.not_eq_true', Bool.and_eq_false_iff, Bool.or_eq_false_iff, Bool.not_eq_false', decide_eq_true_eq, decide_eq_false_iff_not, eqNil] at hg; omega) )
      apply hK; clear hK K
      refine awp_cond (b := _) rfl (fun hb3 => ?_) (fun hb3 => ?_)
      · try simp only [decide_eq_true_eq] at hb3
        -- region 8  columns.go:110
        refine awp_rseq [4] (by rfl) fun K hK => ?_
        simp (decide := true) only [ev, putD, Slots.put, Slots.get, if_true, if_false, true_and, ↓ap_fieldAddr, pop_fieldAddr, fa73_0, ↓ap_loadL, apL_mk, pLoad_one ag3, rd_ne', ne_eq, not_false_eq_true, ne_0q1_0q0.symm, rd_any, List.getD_cons_zero, Nat.zero_add, lv_int]
        repeat (with_reducible refine And.intro ?_ ?_; · first | trivial | omega | (intro hg; simp only [Bool.and_eq_true, Bool.or_eq_true, Bool.not_eq_true', Bool.and_eq_false_iff, Bool.or_eq_false_iff, Bool.not_eq_false', decide_eq_true_eq, decide_eq_false_iff_not, eqNil] at hg; omega) )
        refine aOps_callV (V := faultA ⟨6, r.line, 7⟩) (by rfl) (by rfl) (c_fault w₀ _ 6 r.line 7) ?_
        refine aOps_store (by rfl) (by rfl) (by repeat (first | exact AHeap.set_same _ _ _ | assumption | refine (AHeap.set_ne _ _ (by first | assumption | exact Ne.symm (by assumption))).trans ?_)) sz34 (by rfl) (by rfl) (by first | exact Nat.le_refl _ | decide | (simp; done) | (simp; omega)) (Nat.zero_le _) (by rfl) ?_
        simp only [AHeap.set_set, AVal.cells]
        simp (decide := true) only [aOps_nil, ev, putD, Slots.put, Slots.get, Slots.keep, if_true, if_false, setAt, List.set_cons_zero, List.set_cons_succ, Nat.zero_add, Nat.reduceAdd, faultA]
        repeat (with_reducible refine And.intro ?_ ?_; · first | trivial | omega | (intro hg; simp only [Bool.and_eq_true, Bool.or_eq_true, Bool.not_eq_true', Bool.and_eq_false_iff, Bool.or_eq_false_iff, Bool.not_eq_false', decide_eq_true_eq, decide_eq_false_iff_not, eqNil] at hg; omega) )
        apply hK; clear hK K
        refine awp_ret ?_
        try simp only [thenA_ret, inBlockA_ret]
        refine retA_ret (rdH kx B cb mb x) (by repeat (first | exact Sub.refl _ | assumption | refine Sub.trans_set ?_ (by assumption))) (?_) ?_
        · simp (decide := true) only [resPre, resV_cell, Slots.get, if_true, and_true, resV_cell, pLoad_agg ag34 sz34, rd_set, cellsAt, List.getD_cons_zero, List.getD_cons_succ, Nat.zero_add, Nat.reduceAdd, lv_int, allLive, Bool.and_true, cellsAt, List.getD_cons_zero, List.getD_cons_succ, Nat.zero_add, Nat.reduceAdd, lv_int, allLive, Bool.and_true]
        
        simp (decide := true) only [Slots.get, if_true, resOfG_one, resV_cell, pLoad_agg ag34 sz34, rd_set, cellsAt, List.getD_cons_zero, List.getD_cons_succ, Nat.zero_add, Nat.reduceAdd, lv_int, allLive, Bool.and_true, ne_eq, cellsAt, List.getD_cons_zero, List.getD_cons_succ, Nat.zero_add, Nat.reduceAdd, lv_int, allLive, Bool.and_true, faultA]
        rw [take3 (by simpa using hb2) (List.eq_nil_of_length_eq_zero (by omega))]
        exact ⟨rfl, B, M, cb, mb, rfl, hi, Sub.refl _, fun _ _ h => h⟩
      · try simp only [decide_eq_false_iff_not] at hb3
        have hm : r.more = true := by simpa using hb2
        have hne : x.cards ≠ [] := fun e => hb3 (by rw [e]; rfl)
        -- region 9  columns.go:111
        refine awp_rseq [0, 3, 4, 63] (by rfl) fun K hK => ?_
        simp (decide := true) only [aOps_nil, ev, absV, absS, putD, Slots.put, Slots.get, Slots.keep, if_true, if_false, true_and, ↓ap_fieldAddr, pop_fieldAddr, fa73_3, ↓ap_loadL, apL_mk, pLoad_one ag3, ↓ap_binOp, pop_binOp, isNilC_int, cond_false, pBinX_int, pI_lss, ↓ap_move, pop_move, ↓ag_move, agP, agQ_some, nthDst, gKnown_bool, gKnown_cond, guardB_cond, guardB_bool_true, guardB_bool_false, cv_cv, implies_true, ↓ag_nilCheck, pop_nilCheck, pNil_ptr, cv_nil, cp_nil, ↓ag_fieldAddr, fa71_2, cv_fieldAddr, cp_fieldAddr, ↓ag_loadL, agQL_some, agL_mk, agL_ld2, agL_ld3, pLoad_one ag4, fa73_2, pLoad_one ag9, ↓ag_index, pop_index, pIndex_str Tryd.underlying9, cv_indexl, cp_indexl, ↓ag_binOp, cv_binl, cp_binl, pI_neq, ↓ag_pick, pop_pick, pPick_bool, pickV_cond_r, cp_nest1, pickV_and, pickV_or, cv_pick, cp_pick, ↓ap_pick, ↓ap_assign, pop_assign, rd_ne', ne_eq, not_false_eq_true, ne_0q1_0q0.symm, rd_any, List.getD_cons_zero, List.getD_cons_succ, Nat.zero_add, lv_bool, lv_int, lv_str, hrx, rdCells, Int.toNat_zero]
        repeat (with_reducible refine And.intro ?_ ?_; · first | trivial | omega | (intro hg; simp only [Bool.and_eq_true, Bool.or_eq_true, Bool.not_eq_true', Bool.and_eq_false_iff, Bool.or_eq_false_iff, Bool.not_eq_false', decide_eq_true_eq, decide_eq_false_iff_not, eqNil] at hg; omega) )
        apply hK; clear hK K
        refine awp_cond (b := _) rfl (fun hb4 => ?_) (fun hb4 => ?_)
        · try simp only [decide_eq_true_eq, decide_eq_false_iff_not, Bool.not_eq_true', Bool.and_eq_true, Bool.or_eq_true] at hb4
          -- region 10  columns.go:112
          refine awp_rseq [4] (by rfl) fun K hK => ?_
          simp (decide := true) only [ev, putD, Slots.put, Slots.get, if_true, if_false, true_and, ↓ap_fieldAddr, pop_fieldAddr, fa73_0, ↓ap_loadL, apL_mk, pLoad_one ag3, fa73_3, rd_ne', ne_eq, not_false_eq_true, ne_0q1_0q0.symm, rd_any, List.getD_cons_zero, List.getD_cons_succ, Nat.zero_add, lv_int]
          repeat (with_reducible refine And.intro ?_ ?_; · first | trivial | omega | (intro hg; simp only [Bool.and_eq_true, Bool.or_eq_true, Bool.not_eq_true', Bool.and_eq_false_iff, Bool.or_eq_false_iff, Bool.not_eq_false', decide_eq_true_eq, decide_eq_false_iff_not, eqNil] at hg; omega) )
          refine aOps_callV (V := faultA ⟨4, r.line, r.col⟩) (by rfl) (by rfl) (c_fault w₀ _ 4 r.line r.col) ?_
          refine aOps_store (by rfl) (by rfl) (by repeat (first | exact AHeap.set_same _ _ _ | assumption | refine (AHeap.set_ne _ _ (by first | assumption | exact Ne.symm (by assumption))).trans ?_)) sz34 (by rfl) (by rfl) (by first | exact Nat.le_refl _ | decide | (simp; done) | (simp; omega)) (Nat.zero_le _) (by rfl) ?_
          simp only [AHeap.set_set, AVal.cells]
          simp (decide := true) only [aOps_nil, ev, putD, Slots.put, Slots.get, Slots.keep, if_true, if_false, setAt, List.set_cons_zero, List.set_cons_succ, Nat.zero_add, Nat.reduceAdd, faultA]
          repeat (with_reducible refine And.intro ?_ ?_; · first | trivial | omega | (intro hg; simp only [Bool.and_eq_true, Bool.or_eq_true, Bool.not_eq_true', Bool.and_eq_false_iff, Bool.or_eq_false_iff, Bool.not_eq_false', decide_eq_true_eq, decide_eq_false_iff_not, eqNil] at hg; omega) )
          apply hK; clear hK K
          refine awp_ret ?_
          try simp only [thenA_ret, inBlockA_ret]
          refine retA_ret (rdH kx B cb mb x) (by repeat (first | exact Sub.refl _ | assumption | refine Sub.trans_set ?_ (by assumption))) (?_) ?_
          · simp (decide := true) only [resPre, resV_cell, Slots.get, if_true, and_true, resV_cell, pLoad_agg ag34 sz34, rd_set, cellsAt, List.getD_cons_zero, List.getD_cons_succ, Nat.zero_add, Nat.reduceAdd, lv_int, allLive, Bool.and_true, cellsAt, List.getD_cons_zero, List.getD_cons_succ, Nat.zero_add, Nat.reduceAdd, lv_int, allLive, Bool.and_true]
          
          simp (decide := true) only [Slots.get, if_true, resOfG_one, resV_cell, pLoad_agg ag34 sz34, rd_set, cellsAt, List.getD_cons_zero, List.getD_cons_succ, Nat.zero_add, Nat.reduceAdd, lv_int, allLive, Bool.and_true, ne_eq, cellsAt, List.getD_cons_zero, List.getD_cons_succ, Nat.zero_add, Nat.reduceAdd, lv_int, allLive, Bool.and_true, faultA]
          rw [take4 hm hne (hb4.imp id (fun e => ⟨e.1, fun q => e.2 (by rw [q]; rfl)⟩))]
          exact ⟨rfl, B, M, cb, mb, rfl, hi, Sub.refl _, fun _ _ h => h⟩
        · try simp only [decide_eq_true_eq, decide_eq_false_iff_not, Bool.not_eq_false', Bool.and_eq_false_iff, Bool.or_eq_false_iff] at hb4
          have hnq : ¬ (r.col < 12 ∨ (x.odd = true ∧ r.text.getD 0 0 ≠ 34)) := by
            rintro (e | ⟨e1, e2⟩)
            · exact hb4.1 e
            · rcases hb4.2 with e | e
              · rw [e1] at e; cases e
              · exact e2 ((u8_eq _ 34).mp e)
          -- region 11  columns.go:113
          refine awp_rseq [0, 3, 4, 84] (by rfl) fun K hK => ?_
          simp (decide := true) only [aOps_nil, ev, putD, Slots.put, Slots.get, Slots.keep, if_true, if_false, true_and, ↓ap_move, pop_move, ↓ap_nilCheck, pop_nilCheck, pNil_ptr, ↓ap_fieldAddr, pop_fieldAddr, fa71_2, ↓ap_loadL, apL_mk, pLoad_one ag4, ↓ap_assign, pop_assign, List.getD_cons_zero, List.getD_cons_succ, Nat.zero_add, lv_bool, hrx, rdCells]
          repeat (with_reducible refine And.intro ?_ ?_; · first | trivial | omega | (intro hg; simp only [Bool.and_eq_true, Bool.or_eq_true, Bool.not_eq_true', Bool.and_eq_false_iff, Bool.or_eq_false_iff, Bool.not_eq_false', decide_eq_true_eq, decide_eq_false_iff_not, eqNil] at hg; omega) )
          apply hK; clear hK K
          refine awp_cond (b := _) rfl (fun hb5 => ?_) (fun hb5 => ?_)
          · try simp only [decide_eq_true_eq, decide_eq_false_iff_not, Bool.not_eq_true', Bool.not_eq_false', Bool.and_eq_true, Bool.and_eq_false_iff, Bool.or_eq_true, Bool.or_eq_false_iff, Bool.true_eq, Bool.false_eq, reduceCtorEq] at hb5
            rw [hheap]
            obtain ⟨B₁, hB₁⟩ : ∃ B₁, B₁ = (B.set k0q0 ⟨[.int .i64 r.line, .bool r.more, .str r.text, .int .i64 r.col], 0⟩).set k0q1 ⟨[.int .i64 0, .int .i64 0, .int .i64 0], 0⟩ := ⟨_, rfl⟩
            rw [← hB₁] at b2 ⊢
            have e0 : B₁ k0q0 = some ⟨[.int .i64 r.line, .bool r.more, .str r.text, .int .i64 r.col], 0⟩ := by rw [hB₁, AHeap.set_ne _ _ ne_0q1_0q0.symm, AHeap.set_same]
            have e1 : B₁ k0q1 = some ⟨[.int .i64 0, .int .i64 0, .int .i64 0], 0⟩ := by rw [hB₁, AHeap.set_same]
            have s0 := fun o => rd_own w₀ (b2.other e0) o
            have sx := fun o => rd_own w₀ b2.at o
            have hcut : (r.text.drop (1 : Int).toNat).take ((r.text.length : Int).toNat - (1 : Int).toNat) = r.text.drop 1 := by
              rw [Int.toNat_natCast, show Int.toNat 1 = 1 from rfl, List.take_of_length_le (by simp)]
            -- region 12  columns.go:114
            refine awp_draw_tail 9 mixed (by kernel_rfl) (by rfl) (by rfl) ?_
            simp (decide := true) only [ev, absV, absS, putD, Slots.put, Slots.get, if_true, if_false, true_and, ↓ap_move, pop_move, ↓ap_fieldAddr, pop_fieldAddr, fa73_0, ↓ap_loadL, apL_mk, pLoad_one ag3, fa73_3, ↓ap_binOp, pop_binOp, isNilC_int, cond_false, pBinX_int, pI_add, fa73_2, pLoad_one ag9, ne_eq, List.getD_cons_zero, List.getD_cons_succ, Nat.zero_add, lv_int, lv_str, faultA, s0]
            try simp (disch := omega) only [wrap_i64]
            try simp (decide := true) only [ev, absV, absS, putD, Slots.put, Slots.get, if_true, if_false, true_and, ↓ap_slice, pop_slice, evO, pSliceS_i0 Tryd.underlying9, pSliceS, bndA_none, bndA_int, hcut]
            repeat (with_reducible refine And.intro ?_ ?_; · first | trivial | omega | (intro hg; simp only [Bool.and_eq_true, Bool.or_eq_true, Bool.not_eq_true', Bool.and_eq_false_iff, Bool.or_eq_false_iff, Bool.not_eq_false', decide_eq_true_eq, decide_eq_false_iff_not, eqNil] at hg; omega) )
            refine aOps_call (by rfl) (by rfl) (c_addR w₀ h kx _ _ cb mb _ b2 hne r.line (r.col + 1) (r.text.drop 1) (by intro c hc; have := hb c hc; omega) (by omega) (by simp; omega)) fun x12q9 h12q9 hx12q9 => ?_
            obtain ⟨-, cb2, mb2, rfl, i2⟩ := hx12q9
            have hz := i2.other e1
            have hsB : Sub B B₁ := fun j c hj => by rw [hB₁]; exact Sub.trans_set (Sub.trans_set (Sub.refl _) a4) (by rwa [AHeap.set_ne _ _ ne_0q1_0q0] at b4) j c hj
            have hsM : ∀ j, B j ≠ none → M j = none → M j = none := fun _ _ h => h
            have hfin := take5 (x := x) (r := r) hm hne hnq hb5
            simp (decide := true) only [aOps_nil, putD, Slots.put, if_false]
            repeat (with_reducible refine And.intro ?_ ?_; · first | trivial | omega | (intro hg; simp only [Bool.and_eq_true, Bool.or_eq_true, Bool.not_eq_true', Bool.and_eq_false_iff, Bool.or_eq_false_iff, Bool.not_eq_false', decide_eq_true_eq, decide_eq_false_iff_not, eqNil] at hg; omega) )
            change Awp _ _ _ _ _ _ _
            -- region 13  columns.go:118
            refine awp_rseq [4] (by rfl) fun K hK => ?_
            simp (decide := true) only [ev, absV, absS, putD, Slots.put, Slots.get, if_false, true_and, ↓ap_build, ↓pop_buildL, bld34_, evP, List.map_nil]
            repeat (with_reducible refine And.intro ?_ ?_; · first | trivial | omega | (intro hg; simp only [Bool.and_eq_true, Bool.or_eq_true, Bool.not_eq_true', Bool.and_eq_false_iff, Bool.or_eq_false_iff, Bool.not_eq_false', decide_eq_true_eq, decide_eq_false_iff_not, eqNil] at hg; omega) )
            refine aOps_store (v := .agg [.int .i64 0, .int .i64 0, .int .i64 0]) (by rfl) (by rfl) hz sz34 (by rfl) (by rfl) (by simp []) (Nat.zero_le _) (by rfl) ?_
            simp only [setAt, AVal.cells, List.set_cons_zero, List.set_cons_succ, Nat.zero_add, Nat.reduceAdd]
            rw [set_same_self hz]
            simp (decide := true) only [aOps_nil, putD, Slots.keep, if_true, if_false]
            repeat (with_reducible refine And.intro ?_ ?_; · first | trivial | omega | (intro hg; simp only [Bool.and_eq_true, Bool.or_eq_true, Bool.not_eq_true', Bool.and_eq_false_iff, Bool.or_eq_false_iff, Bool.not_eq_false', decide_eq_true_eq, decide_eq_false_iff_not, eqNil] at hg; omega) )
            apply hK; clear hK K
            refine awp_ret ?_
            try simp only [thenA_ret, inBlockA_ret]
            refine retA_retE (?_) ?_
            · simp (decide := true) only [resPre, resV_cell, Slots.get, if_true, and_true, resV_cell, pLoad_agg ag34 sz34, cellsAt, List.getD_cons_zero, List.getD_cons_succ, Nat.zero_add, Nat.reduceAdd, lv_int, allLive, Bool.and_true, cellsAt, List.getD_cons_zero, List.getD_cons_succ, Nat.zero_add, Nat.reduceAdd, lv_int, allLive, Bool.and_true, rd_own w₀ hz]
            
            simp (decide := true) only [Slots.get, if_true, resOfG_one, resV_cell, pLoad_agg ag34 sz34, cellsAt, List.getD_cons_zero, List.getD_cons_succ, Nat.zero_add, Nat.reduceAdd, lv_int, allLive, Bool.and_true, cellsAt, List.getD_cons_zero, List.getD_cons_succ, Nat.zero_add, Nat.reduceAdd, lv_int, allLive, Bool.and_true, rd_own w₀ hz]
            refine ⟨_, Sub.refl _, ?_⟩
            rw [hfin]
            exact ⟨rfl, _, _, _, _, rfl, i2, hsB, hsM⟩
          · try simp only [decide_eq_true_eq, decide_eq_false_iff_not, Bool.not_eq_true', Bool.not_eq_false', Bool.and_eq_true, Bool.and_eq_false_iff, Bool.or_eq_true, Bool.or_eq_false_iff, Bool.true_eq, Bool.false_eq, reduceCtorEq] at hb5
            rw [hheap]
            obtain ⟨B₁, hB₁⟩ : ∃ B₁, B₁ = (B.set k0q0 ⟨[.int .i64 r.line, .bool r.more, .str r.text, .int .i64 r.col], 0⟩).set k0q1 ⟨[.int .i64 0, .int .i64 0, .int .i64 0], 0⟩ := ⟨_, rfl⟩
            rw [← hB₁] at b2 ⊢
            have e0 : B₁ k0q0 = some ⟨[.int .i64 r.line, .bool r.more, .str r.text, .int .i64 r.col], 0⟩ := by rw [hB₁, AHeap.set_ne _ _ ne_0q1_0q0.symm, AHeap.set_same]
            have e1 : B₁ k0q1 = some ⟨[.int .i64 0, .int .i64 0, .int .i64 0], 0⟩ := by rw [hB₁, AHeap.set_same]
            have s0 := fun o => rd_own w₀ (b2.other e0) o
            have sx := fun o => rd_own w₀ b2.at o
            -- region 1  columns.go:116
            refine awp_r [4] (by rfl) ?_
            simp (decide := true) only [ev, putD, Slots.put, Slots.get, if_true, if_false, true_and, ↓ap_move, pop_move, ↓ap_fieldAddr, pop_fieldAddr, fa73_0, ↓ap_loadL, apL_mk, pLoad_one ag3, fa73_3, fa73_2, pLoad_one ag9, ne_eq, List.getD_cons_zero, List.getD_cons_succ, Nat.zero_add, lv_int, lv_str, faultA, s0]
            repeat (with_reducible refine And.intro ?_ ?_; · first | trivial | omega | (intro hg; simp only [Bool.and_eq_true, Bool.or_eq_true, Bool.not_eq_true', Bool.and_eq_false_iff, Bool.or_eq_false_iff, Bool.not_eq_false', decide_eq_true_eq, decide_eq_false_iff_not, eqNil] at hg; omega) )
            refine aOps_call (by rfl) (by rfl) (c_addR w₀ h kx _ _ cb mb _ b2 hne r.line r.col r.text (by intro c hc; have := hb c hc; omega) (by omega) ht) fun x1q7 h1q7 hx1q7 => ?_
            obtain ⟨-, cb2, mb2, rfl, i2⟩ := hx1q7
            have hz := i2.other e1
            have hsB : Sub B B₁ := fun j c hj => by rw [hB₁]; exact Sub.trans_set (Sub.trans_set (Sub.refl _) a4) (by rwa [AHeap.set_ne _ _ ne_0q1_0q0] at b4) j c hj
            have hsM : ∀ j, B j ≠ none → M j = none → M j = none := fun _ _ h => h
            have hfin := take6 (x := x) (r := r) hm hne hnq hb5
            simp (decide := true) only [aOps_nil, putD, Slots.put, Slots.keep, if_true, if_false]
            repeat (with_reducible refine And.intro ?_ ?_; · first | trivial | omega | (intro hg; simp only [Bool.and_eq_true, Bool.or_eq_true, Bool.not_eq_true', Bool.and_eq_false_iff, Bool.or_eq_false_iff, Bool.not_eq_false', decide_eq_true_eq, decide_eq_false_iff_not, eqNil] at hg; omega) )
            change Awp _ _ _ _ _ _ _
            -- region 13  columns.go:118
            refine awp_rseq [4] (by rfl) fun K hK => ?_
            simp (decide := true) only [ev, absV, absS, putD, Slots.put, Slots.get, if_false, true_and, ↓ap_build, ↓pop_buildL, bld34_, evP, List.map_nil]
            repeat (with_reducible refine And.intro ?_ ?_; · first | trivial | omega | (intro hg; simp only [Bool.and_eq_true, Bool.or_eq_true, Bool.not_eq_true', Bool.and_eq_false_iff, Bool.or_eq_false_iff, Bool.not_eq_false', decide_eq_true_eq, decide_eq_false_iff_not, eqNil] at hg; omega) )
            refine aOps_store (v := .agg [.int .i64 0, .int .i64 0, .int .i64 0]) (by rfl) (by rfl) hz sz34 (by rfl) (by rfl) (by simp []) (Nat.zero_le _) (by rfl) ?_
            simp only [setAt, AVal.cells, List.set_cons_zero, List.set_cons_succ, Nat.zero_add, Nat.reduceAdd]
            rw [set_same_self hz]
            simp (decide := true) only [aOps_nil, putD, Slots.keep, if_true, if_false]
            repeat (with_reducible refine And.intro ?_ ?_; · first | trivial | omega | (intro hg; simp only [Bool.and_eq_true, Bool.or_eq_true, Bool.not_eq_true', Bool.and_eq_false_iff, Bool.or_eq_false_iff, Bool.not_eq_false', decide_eq_true_eq, decide_eq_false_iff_not, eqNil] at hg; omega) )
            apply hK; clear hK K
            refine awp_ret ?_
            try simp only [thenA_ret, inBlockA_ret]
            refine retA_retE (?_) ?_
            · simp (decide := true) only [resPre, resV_cell, Slots.get, if_true, and_true, resV_cell, pLoad_agg ag34 sz34, cellsAt, List.getD_cons_zero, List.getD_cons_succ, Nat.zero_add, Nat.reduceAdd, lv_int, allLive, Bool.and_true, cellsAt, List.getD_cons_zero, List.getD_cons_succ, Nat.zero_add, Nat.reduceAdd, lv_int, allLive, Bool.and_true, rd_own w₀ hz]
            
            simp (decide := true) only [Slots.get, if_true, resOfG_one, resV_cell, pLoad_agg ag34 sz34, cellsAt, List.getD_cons_zero, List.getD_cons_succ, Nat.zero_add, Nat.reduceAdd, lv_int, allLive, Bool.and_true, cellsAt, List.getD_cons_zero, List.getD_cons_succ, Nat.zero_add, Nat.reduceAdd, lv_int, allLive, Bool.and_true, rd_own w₀ hz]
            refine ⟨_, Sub.refl _, ?_⟩
            rw [hfin]
            exact ⟨rfl, _, _, _, _, rfl, i2, hsB, hsM⟩
end Go.Proofs.YtikpnhdjjabdmaaDoor

/-
  Contracts: Clip of marks and of cards; bounds of what has been read.
  Conditions: none.
-/
namespace Go.Proofs.YtikpnhdjjabdmaaDoor
open Go.AM
open Go.Proofs
open Go.Col
set_option maxRecDepth 100000

theorem c_clipM (w₀ : World) (h : AHeap) (v : AVal) (xs : List (List AVal)) (hv : IsL w₀ h 3 v xs) : ACall Tryd.prog w₀ 33 [v] h (fun r h' => r = capL v ∧ h' = h) := by
  have hlen := hv.len Tryd.underlying37
  have h3 := hv.slice3 Tryd.underlying37 sz57 .i64 .i64 none rfl
  refine acall_intro (n := 9) (rs := [.tmp 2]) Tryd.func33 rfl rfl rfl rfl (Nat.le_of_ble_eq_true rfl) ?_
  simp only [initSlots]
  -- region 0  slices.go:435
  refine awp_rseq [0] (by rfl) fun K hK => ?_
  simp (decide := true) only [aOps_nil, ev, absV, absS, putD, Slots.put, Slots.keep, if_true, if_false, true_and, ↓ap_assign, pop_assign]
  repeat (with_reducible refine And.intro ?_ ?_; · first | trivial | omega | (intro hg; simp only [Bool.and_eq_true, Bool.or_eq_true, Bool.not_eq_true', Bool.and_eq_false_iff, Bool.or_eq_false_iff, Bool.not_eq_false', decide_eq_true_eq, decide_eq_false_iff_not, eqNil] at hg; omega) )
  apply hK; clear hK K
  -- region 1  slices.go:436
  refine awp_rseq [2] (by rfl) fun K hK => ?_
  simp (decide := true) only [aOps_nil, ev, putD, Slots.put, Slots.get, Slots.keep, if_true, if_false, true_and, ↓ap_move, pop_move, ↓ap_len, pop_len, ↓ap_slice, pop_slice, evO, ↓ap_assign, pop_assign, hlen, h3]
  repeat (with_reducible refine And.intro ?_ ?_; · first | trivial | omega | (intro hg; simp only [Bool.and_eq_true, Bool.or_eq_true, Bool.not_eq_true', Bool.and_eq_false_iff, Bool.or_eq_false_iff, Bool.not_eq_false', decide_eq_true_eq, decide_eq_false_iff_not, eqNil] at hg; omega) )
  apply hK; clear hK K
  refine awp_ret ?_
  try simp only [thenA_ret, inBlockA_ret]
  refine retA_ret _ (Sub.refl _) (resPre_tmp (resPre_nil)) ?_
  simp (decide := true) only [Slots.get, if_true, and_true, resOf_one]
  all_goals first | rfl | exact ⟨rfl, rfl⟩ | (simp (decide := true) only [if_true, if_false, *]; done) | (trace_state; fail)
theorem c_clipC (w₀ : World) (h : AHeap) (v : AVal) (xs : List (List AVal)) (hv : IsL w₀ h 3 v xs) : ACall Tryd.prog w₀ 34 [v] h (fun r h' => r = capL v ∧ h' = h) := by
  have hlen := hv.len Tryd.underlying30
  have h3 := hv.slice3 Tryd.underlying30 sz39 .i64 .i64 none rfl
  refine acall_intro (n := 9) (rs := [.tmp 2]) Tryd.func34 rfl rfl rfl rfl (Nat.le_of_ble_eq_true rfl) ?_
  simp only [initSlots]
  -- region 0  slices.go:435
  refine awp_rseq [0] (by rfl) fun K hK => ?_
  simp (decide := true) only [aOps_nil, ev, absV, absS, putD, Slots.put, Slots.keep, if_true, if_false, true_and, ↓ap_assign, pop_assign]
  repeat (with_reducible refine And.intro ?_ ?_; · first | trivial | omega | (intro hg; simp only [Bool.and_eq_true, Bool.or_eq_true, Bool.not_eq_true', Bool.and_eq_false_iff, Bool.or_eq_false_iff, Bool.not_eq_false', decide_eq_true_eq, decide_eq_false_iff_not, eqNil] at hg; omega) )
  apply hK; clear hK K
  -- region 1  slices.go:436
  refine awp_rseq [2] (by rfl) fun K hK => ?_
  simp (decide := true) only [aOps_nil, ev, putD, Slots.put, Slots.get, Slots.keep, if_true, if_false, true_and, ↓ap_move, pop_move, ↓ap_len, pop_len, ↓ap_slice, pop_slice, evO, ↓ap_assign, pop_assign, hlen, h3]
  repeat (with_reducible refine And.intro ?_ ?_; · first | trivial | omega | (intro hg; simp only [Bool.and_eq_true, Bool.or_eq_true, Bool.not_eq_true', Bool.and_eq_false_iff, Bool.or_eq_false_iff, Bool.not_eq_false', decide_eq_true_eq, decide_eq_false_iff_not, eqNil] at hg; omega) )
  apply hK; clear hK K
  refine awp_ret ?_
  try simp only [thenA_ret, inBlockA_ret]
  refine retA_ret _ (Sub.refl _) (resPre_tmp (resPre_nil)) ?_
  simp (decide := true) only [Slots.get, if_true, and_true, resOf_one]
  all_goals first | rfl | exact ⟨rfl, rfl⟩ | (simp (decide := true) only [if_true, if_false, *]; done) | (trace_state; fail)
/-- What has been read is not greater than its lines. -/
structure RdSm (N : Nat) (x : Rd) : Prop where
  many : x.cards.length ≤ N
  small : ∀ c ∈ x.cards, c.text.length ≤ 80 * N ∧ c.marks.length ≤ N
theorem RdSm.next {N : Nat} {x : Rd} (h : RdSm N x) : RdSm (N + 1) x := ⟨by have := h.many; omega, fun c hc => by have := h.small c hc; omega⟩
theorem addC_small {c : CardC} {N : Nat} (h : c.text.length ≤ 80 * N ∧ c.marks.length ≤ N) (line col : Int) (t : Str) (ht : t.length ≤ 80) : (addC c line col t).text.length ≤ 80 * (N + 1) ∧ (addC c line col t).marks.length ≤ N + 1 := by
  have h1 := trimR_le t
  unfold addC
  simp only [List.length_append]
  constructor
  · split <;> omega
  · split <;> (try split) <;> (try simp only [List.length_append, List.length_cons, List.length_nil]) <;> omega
theorem addE_small {N : Nat} {x : Rd} (h : RdSm N x) (line col : Int) (t : Str) (ht : t.length ≤ 80) : RdSm (N + 1) (addE x line col t) := by
  rcases List.eq_nil_or_concat x.cards with e | ⟨l, c, e⟩
  · have : addE x line col t = x := by unfold addE; rw [e]; rfl
    rw [this]
    exact h.next
  · rw [List.concat_eq_append] at e
    rw [addE_last e]
    have hm := h.many
    rw [e] at hm
    simp only [List.length_append, List.length_cons, List.length_nil] at hm
    refine ⟨by simp; omega, fun d hd => ?_⟩
    rw [List.mem_append] at hd
    rcases hd with hd | hd
    · have := h.small d (by rw [e]; simp [hd])
      omega
    · rw [List.mem_singleton.1 hd]
      exact addC_small (h.small c (by rw [e]; simp)) line col t ht
theorem takeE_small {N : Nat} {x : Rd} (h : RdSm N x) {r : RowC} (ht : r.text.length ≤ 80) : RdSm (N + 1) (takeE x r).1 := by
  unfold takeE
  split
  · exact h.next
  split
  · have hp : RdSm N x := h
    have h' : RdSm (N + 1) ⟨x.cards ++ [⟨decide (r.col < 12), [], []⟩], x.line, x.col, x.odd⟩ := by
      refine ⟨by have := h.many; simp; omega, fun c hc => ?_⟩
      rw [List.mem_append] at hc
      rcases hc with hc | hc
      · exact h.next.small c hc
      · rw [List.mem_singleton.1 hc]
        simp
    refine ⟨?_, ?_⟩
    · have := h.many
      rw [addE_last (x := ⟨x.cards ++ [⟨decide (r.col < 12), [], []⟩], x.line, x.col, x.odd⟩) rfl]
      simp
      omega
    · intro c hc
      rw [addE_last (x := ⟨x.cards ++ [⟨decide (r.col < 12), [], []⟩], x.line, x.col, x.odd⟩) rfl] at hc
      simp only [List.mem_append, List.mem_singleton] at hc
      rcases hc with hc | rfl
      · exact h.next.small c hc
      · exact addC_small ⟨by simp, by simp⟩ _ _ _ ht
  split
  · exact h.next
  split
  · exact h.next
  split
  · exact addE_small h _ _ _ (by simp; omega)
  · exact addE_small h _ _ _ ht
theorem lineE_small {s : Str} {line : Int} {dbg : Bool} : (lineE s line dbg).1.text.length ≤ 65 ∧ ((lineE s line dbg).2.1 = true → (lineE s line dbg).1.text ≠ [] ∧ 0 ≤ (lineE s line dbg).1.col ∧ (lineE s line dbg).1.col ≤ 73) := by
  by_cases h80 : 80 < s.length
  · have : lineE s line dbg = (noRow, false, ⟨5, line, 81⟩) := by unfold lineE; rw [if_pos h80]
    rw [this]
    simp [noRow]
  · cases hb : badAt s with
    | some i =>
      have : lineE s line dbg = (noRow, false, ⟨4, line, (i : Int) + 1⟩) := by unfold lineE; rw [if_neg h80, hb]
      rw [this]
      simp [noRow]
    | none =>
      rw [lineE_none h80 hb]
      have h1 : (rowE s line).text.length ≤ 65 := Nat.le_trans (trimL_le _) (by simp; omega)
      have h2 : (rowE s line).col = 73 - (rowE s line).text.length := rfl
      split
      · exact ⟨h1, by simp⟩
      split
      · refine ⟨h1, fun h => ?_⟩
        simp only [Bool.and_eq_true, Bool.not_eq_true', decide_eq_false_iff_not] at h
        exact ⟨h.2, by simp only; omega, by simp only; omega⟩
      split
      · refine ⟨h1, fun h => ?_⟩
        simp only [Bool.not_eq_true', decide_eq_false_iff_not] at h
        exact ⟨h, by simp only; omega, by simp only; omega⟩
      · exact ⟨h1, by simp⟩
theorem splitNL_len : ∀ s : Str, (splitNL s).length ≤ s.length + 1
  | [] => by simp [splitNL]
  | b :: s => by
    have := splitNL_len s
    unfold splitNL
    split
    · simp; omega
    · split <;> simp_all <;> omega
theorem trimNL_len (s : Str) : (trimNL s).length ≤ s.length := by
  unfold trimNL
  split <;> simp
/-- A row of cards. -/
def IsCards (w₀ : World) (h : AHeap) (v : AVal) (cs : List CardC) : Prop := ∃ ps : List (CardC × AVal), ps.map (·.1) = cs ∧ IsL w₀ h 3 v (ps.map cell3) ∧ ∀ p ∈ ps, IsL w₀ h 3 p.2 (p.1.marks.map markC)
theorem IsCards.mono {w₀ : World} {h h' : AHeap} {v : AVal} {cs : List CardC} (hc : IsCards w₀ h v cs) (hs : Sub h h') : IsCards w₀ h' v cs := by
  obtain ⟨ps, h1, h2, h3⟩ := hc
  exact ⟨ps, h1, h2.mono hs, fun p hp => (h3 p hp).mono hs⟩
end Go.Proofs.YtikpnhdjjabdmaaDoor

/-
  Contracts: Read of the package columns.
  Conditions: none.
-/
namespace Go.Proofs.YtikpnhdjjabdmaaDoor
open Go.AM
open Go.Proofs
open Go.Col
set_option maxRecDepth 100000

/-- What Read answers. -/
def ReadR (w₀ : World) (h : AHeap) (text : Str) (dbg : Bool) (v : AVal) (h' : AHeap) : Prop := ∃ cv, v = .tuple [cv, faultA (readE text dbg).2] ∧ IsCards w₀ h' cv (readE text dbg).1 ∧ Sub h h'
structure RdL where
  i : Nat
  B : AHeap
  M : AHeap
  cb : Option Buf
  mb : Option Buf
  x : Rd
theorem faultA_eq (f : FaultC) : (decide (f.e = 0) && (decide (f.line = 0) && decide (f.col = 0))) = decide (f = okF) := by
  obtain ⟨a, b, c⟩ := f
  rw [Bool.eq_iff_iff]
  simp [okF]
theorem readL_skip {s : Str} {l : List Str} {n : Int} {x : Rd} {dbg : Bool} {r : RowC} {f : FaultC} (hp : lineE s n dbg = (r, false, f)) (hf : f = okF) : readL dbg (s :: l) n x = readL dbg l (n + 1) x := by
  rw [readL, hp]
  simp only
  rw [if_pos ⟨hf, trivial⟩]
theorem readL_fault {s : Str} {l : List Str} {n : Int} {x : Rd} {dbg : Bool} {r : RowC} {cn : Bool} {f : FaultC} (hp : lineE s n dbg = (r, cn, f)) (hf : f ≠ okF) : readL dbg (s :: l) n x = (x, f) := by
  rw [readL, hp]
  simp only
  rw [if_neg (fun e => hf e.1), if_neg hf]
theorem readL_bad {s : Str} {l : List Str} {n : Int} {x : Rd} {dbg : Bool} {r : RowC} {f : FaultC} (hp : lineE s n dbg = (r, true, f)) (hf : f = okF) (hg : (takeE x r).2 ≠ okF) : readL dbg (s :: l) n x = ((takeE x r).1, (takeE x r).2) := by
  rw [readL, hp]
  simp only
  rw [if_neg (fun e => by cases e.2), if_pos hf, if_neg hg]
theorem readL_take {s : Str} {l : List Str} {n : Int} {x : Rd} {dbg : Bool} {r : RowC} {f : FaultC} (hp : lineE s n dbg = (r, true, f)) (hf : f = okF) (hg : (takeE x r).2 = okF) : readL dbg (s :: l) n x = readL dbg l (n + 1) (takeE x r).1 := by
  rw [readL, hp]
  simp only
  rw [if_neg (fun e => by cases e.2), if_pos hf, if_pos hg]
theorem readE_fault {text : Str} {dbg : Bool} (hl : text.length ≤ 1048576) {x : Rd} {f : FaultC} (h : readL dbg (splitNL (trimNL text)) 1 .start = (x, f)) (hf : f ≠ okF) : readE text dbg = ([], f) := by
  unfold readE
  rw [if_neg (by omega), h]
  simp only
  rw [if_pos hf]
theorem splitNL_mem : ∀ (s : Str), ∀ l ∈ splitNL s, l.length ≤ s.length
  | [], l, h => by simp [splitNL] at h; subst h; simp
  | b :: s, l, h => by
    have ih := splitNL_mem s
    unfold splitNL at h
    split at h
    · rcases List.mem_cons.1 h with rfl | h
      · simp
      · have := ih l h; simp; omega
    · split at h
      · rename_i e
        simp only [List.mem_singleton] at h
        subst h
        simp
      · rename_i l0 ls e
        rcases List.mem_cons.1 h with rfl | h
        · have := ih l0 (by rw [e]; simp); simp; omega
        · have := ih l (by rw [e]; simp [h]); simp; omega
theorem readE_odd {text : Str} {dbg : Bool} (hl : text.length ≤ 1048576) {x : Rd} (h : readL dbg (splitNL (trimNL text)) 1 .start = (x, okF)) (ho : x.odd = true) : readE text dbg = ([], ⟨4, x.line, x.col⟩) := by
  unfold readE
  rw [if_neg (by omega), h]
  simp only
  rw [if_neg (by simp), if_pos ho]
theorem readE_ok {text : Str} {dbg : Bool} (hl : text.length ≤ 1048576) {x : Rd} (h : readL dbg (splitNL (trimNL text)) 1 .start = (x, okF)) (ho : x.odd = false) : readE text dbg = (x.cards, okF) := by
  unfold readE
  rw [if_neg (by omega), h]
  simp only
  rw [if_neg (by simp), if_neg (by rw [ho]; decide)]
/-- Nothing has been read. -/
theorem readEnd0 (w₀ : World) (h B0 : AHeap) (hs0 : Sub h B0) (kr kx : Nat) (text : Str) (dbg : Bool) (hl : text.length ≤ 1048576) (er : B0 kr = some ⟨[.int .i64 0, .int .i64 0, .int .i64 0], 0⟩) (hr : h kr = none)
    (B M : AHeap) (cb mb : Option Buf) (x : Rd) (ri : RdInv w₀ B0 kx B M cb mb x) (hcards : x.cards = []) (hrl : readL dbg (splitNL (trimNL text)) 1 .start = (x, okF)) :
    Awp Tryd.prog w₀ 82 (dropSeq 5 (unScope (dropSeq 1 (bodyOf Tryd.f11)))) (noGotoA (retA Tryd.prog w₀ [.tmp 4, .cell 5 34] (ReadR w₀ h text dbg))) [(5, .ptr (.own kr) 0), (6, .ptr (.own kx) 0)] (rdH kx B cb mb x) := by
  obtain ⟨rfl, rfl⟩ : cb = none ∧ mb = none := by
    rcases ri.cards with e | ⟨done, c, kc, e, _⟩
    · exact e.2
    · rw [hcards] at e; simp at e
  have rix := fun o => rd_own w₀ ri.at o
  have hnil : bufV 3 none = .nilSlice := rfl
  change Awp _ _ _ (Code.seq _ _) _ _ _
  refine awp_seq ?_
  -- region 15  columns.go:141
  refine awp_rseq [5, 6, 55] (by rfl) fun K hK => ?_
  simp (decide := true) only [aOps_nil, ev, putD, Slots.put, Slots.get, Slots.keep, if_true, if_false, true_and, ↓ap_fieldAddr, pop_fieldAddr, fa71_2, ↓ap_loadL, apL_mk, pLoad_one ag4, List.getD_cons_zero, List.getD_cons_succ, Nat.zero_add, lv_bool, rix, rdCells, hnil]
  repeat (with_reducible refine And.intro ?_ ?_; · first | trivial | omega | (intro hg; simp only [Bool.and_eq_true, Bool.or_eq_true, Bool.not_eq_true', Bool.and_eq_false_iff, Bool.or_eq_false_iff, Bool.not_eq_false', decide_eq_true_eq, decide_eq_false_iff_not, eqNil] at hg; omega) )
  apply hK; clear hK K
  refine awp_cond (b := _) rfl (fun hb1 => ?_) (fun hb1 => ?_)
  · try simp only [decide_eq_true_eq, decide_eq_false_iff_not, Bool.not_eq_true', Bool.not_eq_false', Bool.and_eq_true, Bool.and_eq_false_iff, Bool.or_eq_true, Bool.or_eq_false_iff, Bool.true_eq, Bool.false_eq, reduceCtorEq] at hb1
    have hres := readE_odd hl hrl hb1
    -- region 16  columns.go:142
    refine awp_dseq_tail 4 [4, 5] mixed (by kernel_rfl) (by rfl) (by rfl) fun K hK => ?_
    simp (decide := true) only [ev, absV, absS, putD, Slots.put, Slots.get, if_true, if_false, true_and, ↓ap_fieldAddr, pop_fieldAddr, fa71_1, ↓ap_loadL, apL_mk, pLoad_agg ag32 sz32, ↓ap_build, ↓pop_buildL, bld34_0_1, evP, List.map_cons, List.map_nil, ↓ap_assign, pop_assign, cellsAt, List.getD_cons_zero, List.getD_cons_succ, Nat.zero_add, Nat.reduceAdd, lv_int, allLive, Bool.and_true, rix, rdCells, hnil]
    repeat (with_reducible refine And.intro ?_ ?_; · first | trivial | omega | (intro hg; simp only [Bool.and_eq_true, Bool.or_eq_true, Bool.not_eq_true', Bool.and_eq_false_iff, Bool.or_eq_false_iff, Bool.not_eq_false', decide_eq_true_eq, decide_eq_false_iff_not, eqNil] at hg; omega) )
    refine aOps_store (v := .agg [.int .i64 4, .int .i64 x.line, .int .i64 x.col]) (by rfl) (by rfl) (ri.other (ri.sub _ _ er)) sz34 (by rfl) (by rfl) (by simp []) (Nat.zero_le _) (by rfl) ?_
    simp only [setAt, AVal.cells, List.set_cons_zero, List.set_cons_succ, Nat.zero_add, Nat.reduceAdd]
    simp (decide := true) only [aOps_nil, putD, Slots.keep, if_true, if_false]
    repeat (with_reducible refine And.intro ?_ ?_; · first | trivial | omega | (intro hg; simp only [Bool.and_eq_true, Bool.or_eq_true, Bool.not_eq_true', Bool.and_eq_false_iff, Bool.or_eq_false_iff, Bool.not_eq_false', decide_eq_true_eq, decide_eq_false_iff_not, eqNil] at hg; omega) )
    apply hK; clear hK K
    refine awp_ret ?_
    try simp only [thenA_ret, noGotoA_ret]
    refine retA_ret h (Sub.trans_set (hs0.trans ri.above) hr) (?_) ?_
    · simp (decide := true) only [resPre, resV_tmp, resV_cell, Slots.get, if_true, if_false, and_true, resV_tmp, resV_cell, pLoad_agg ag34 sz34, rd_set, cellsAt, List.getD_cons_zero, List.getD_cons_succ, Nat.zero_add, Nat.reduceAdd, lv_int, allLive, Bool.and_true, cellsAt, List.getD_cons_zero, List.getD_cons_succ, Nat.zero_add, Nat.reduceAdd, lv_int, allLive, Bool.and_true]
    
    simp (decide := true) only [Slots.get, if_true, if_false, resOfG_two, resV_tmp, resV_cell, pLoad_agg ag34 sz34, rd_set, cellsAt, List.getD_cons_zero, List.getD_cons_succ, Nat.zero_add, Nat.reduceAdd, lv_int, allLive, Bool.and_true, cellsAt, List.getD_cons_zero, List.getD_cons_succ, Nat.zero_add, Nat.reduceAdd, lv_int, allLive, Bool.and_true]
    exact ⟨.nilSlice, by rw [hres]; rfl, by rw [hres]; exact ⟨[], rfl, .nil, by simp⟩, Sub.refl _⟩
  · try simp only [decide_eq_true_eq, decide_eq_false_iff_not, Bool.not_eq_true', Bool.not_eq_false', Bool.and_eq_true, Bool.and_eq_false_iff, Bool.or_eq_true, Bool.or_eq_false_iff, Bool.true_eq, Bool.false_eq, reduceCtorEq] at hb1
    have hres := readE_ok hl hrl hb1
    refine awp_skip ?_
    change Awp _ _ _ _ _ _ _
    refine awp_seq ?_
    -- region 17  columns.go:144
    refine awp_rseq [5, 6, 61, 62] (by rfl) fun K hK => ?_
    simp (decide := true) only [aOps_nil, ev, absV, absS, putD, Slots.put, Slots.get, Slots.keep, if_true, if_false, true_and, ↓ap_fieldAddr, pop_fieldAddr, fa71_0, ↓ap_loadL, apL_mk, pLoad_one ag30, ↓ap_len, pop_len, pLen_nil Tryd.underlying30, ↓ap_move, pop_move, List.getD_cons_zero, Nat.zero_add, lv_nilSlice, rix, rdCells, hnil]
    repeat (with_reducible refine And.intro ?_ ?_; · first | trivial | omega | (intro hg; simp only [Bool.and_eq_true, Bool.or_eq_true, Bool.not_eq_true', Bool.and_eq_false_iff, Bool.or_eq_false_iff, Bool.not_eq_false', decide_eq_true_eq, decide_eq_false_iff_not, eqNil] at hg; omega) )
    apply hK; clear hK K
    refine awp_block ?_
    refine awp_loopG [5, 6, 61, 62] (fun g : Unit => [(5, .ptr (.own kr) 0), (6, .ptr (.own kx) 0), (61, .int .i64 0), (62, .int .i64 0)]) (fun g : Unit => rdH kx B none none x) (fun g : Unit => True) (fun g : Unit => 0) () (by rfl) (Sub.refl _) trivial ?_
    intro _ _
    -- region 18  columns.go:144
    refine awp_rseq [5, 6, 61, 62, 63] (by rfl) fun K hK => ?_
    simp (decide := true) only [aOps_nil, ev, putD, Slots.put, Slots.get, Slots.keep, if_true, if_false, true_and, ↓ap_binOp, pop_binOp, isNilC_tmp, cond_false, pBinX_int, pI_lss]
    repeat (with_reducible refine And.intro ?_ ?_; · first | trivial | omega | (intro hg; simp only [Bool.and_eq_true, Bool.or_eq_true, Bool.not_eq_true', Bool.and_eq_false_iff, Bool.or_eq_false_iff, Bool.not_eq_false', decide_eq_true_eq, decide_eq_false_iff_not, eqNil] at hg; omega) )
    apply hK; clear hK K
    refine awp_seq (awp_cond (b := _) rfl (fun hb2 => ?_) (fun hb2 => ?_))
    · exact absurd hb2 (by decide)
    · try simp only [decide_eq_false_iff_not] at hb2
      refine awp_exit ?_
      change Awp _ _ _ _ _ _ _
      -- region 22  columns.go:147
      refine awp_rseq [4, 5] (by rfl) fun K hK => ?_
      simp (decide := true) only [ev, putD, Slots.put, Slots.get, if_true, if_false, true_and, ↓ap_fieldAddr, pop_fieldAddr, fa71_0, ↓ap_loadL, apL_mk, pLoad_one ag30, List.getD_cons_zero, Nat.zero_add, lv_nilSlice, rix, rdCells, hnil]
      repeat (with_reducible refine And.intro ?_ ?_; · first | trivial | omega | (intro hg; simp only [Bool.and_eq_true, Bool.or_eq_true, Bool.not_eq_true', Bool.and_eq_false_iff, Bool.or_eq_false_iff, Bool.not_eq_false', decide_eq_true_eq, decide_eq_false_iff_not, eqNil] at hg; omega) )
      refine aOps_callV (V := .nilSlice) (by rfl) (by rfl) ((c_clipC w₀ _ .nilSlice [] .nil)) ?_
      simp (decide := true) only [ev, absV, absS, putD, Slots.put, Slots.get, if_true, if_false, true_and, ↓ap_build, ↓pop_buildL, bld34_, evP, List.map_nil, ↓ap_assign, pop_assign]
      repeat (with_reducible refine And.intro ?_ ?_; · first | trivial | omega | (intro hg; simp only [Bool.and_eq_true, Bool.or_eq_true, Bool.not_eq_true', Bool.and_eq_false_iff, Bool.or_eq_false_iff, Bool.not_eq_false', decide_eq_true_eq, decide_eq_false_iff_not, eqNil] at hg; omega) )
      refine aOps_store (v := .agg [.int .i64 0, .int .i64 0, .int .i64 0]) (by rfl) (by rfl) (ri.other (ri.sub _ _ er)) sz34 (by rfl) (by rfl) (by simp []) (Nat.zero_le _) (by rfl) ?_
      simp only [setAt, AVal.cells, List.set_cons_zero, List.set_cons_succ, Nat.zero_add, Nat.reduceAdd]
      simp (decide := true) only [aOps_nil, putD, Slots.keep, if_true, if_false]
      repeat (with_reducible refine And.intro ?_ ?_; · first | trivial | omega | (intro hg; simp only [Bool.and_eq_true, Bool.or_eq_true, Bool.not_eq_true', Bool.and_eq_false_iff, Bool.or_eq_false_iff, Bool.not_eq_false', decide_eq_true_eq, decide_eq_false_iff_not, eqNil] at hg; omega) )
      apply hK; clear hK K
      refine awp_ret ?_
      try simp only [noGotoA_ret]
      refine retA_ret h (Sub.trans_set (hs0.trans ri.above) hr) (?_) ?_
      · simp (decide := true) only [resPre, resV_tmp, resV_cell, Slots.get, if_true, if_false, and_true, resV_tmp, resV_cell, pLoad_agg ag34 sz34, rd_set, cellsAt, List.getD_cons_zero, List.getD_cons_succ, Nat.zero_add, Nat.reduceAdd, lv_int, allLive, Bool.and_true, cellsAt, List.getD_cons_zero, List.getD_cons_succ, Nat.zero_add, Nat.reduceAdd, lv_int, allLive, Bool.and_true]
      
      simp (decide := true) only [Slots.get, if_true, if_false, resOfG_two, resV_tmp, resV_cell, pLoad_agg ag34 sz34, rd_set, cellsAt, List.getD_cons_zero, List.getD_cons_succ, Nat.zero_add, Nat.reduceAdd, lv_int, allLive, Bool.and_true, cellsAt, List.getD_cons_zero, List.getD_cons_succ, Nat.zero_add, Nat.reduceAdd, lv_int, allLive, Bool.and_true]
      exact ⟨.nilSlice, by rw [hres]; rfl, by rw [hres, hcards]; exact ⟨[], rfl, .nil, by simp⟩, Sub.refl _⟩

def clipP (p : CardC × AVal) : CardC × AVal := (p.1, capL p.2)
theorem flat_len3 (l : List (CardC × AVal)) : (l.map cell3).flatten.length = l.length * 3 := by
  rw [flatten_len (es := 3) (by intro y hy; obtain ⟨p, _, rfl⟩ := List.mem_map.1 hy; rfl), List.length_map]
theorem flat_set : ∀ (l : List (CardC × AVal)) (i : Nat) (v : AVal) (hi : i < l.length), setAt (l.map cell3).flatten (i * 3 + 2) [v] = ((l.set i ((l[i]).1, v)).map cell3).flatten
  | p :: l, 0, v, _ => rfl
  | p :: l, i + 1, v, hi => by
    have ih := flat_set l i v (by simpa using hi)
    simp only [setAt] at ih ⊢
    simp only [List.map_cons, List.flatten_cons, List.set_cons_succ, List.getElem_cons_succ]
    rw [← ih, List.set_append_right _ _ (by rw [cell3_wide]; omega), cell3_wide, show (i + 1) * 3 + 2 - 3 = i * 3 + 2 by omega]
theorem flat_get (l : List (CardC × AVal)) (i : Nat) (hi : i < l.length) : (l.map cell3).flatten.getD (i * 3 + 2) .dead = (l[i]).2 := by
  rw [List.getD, flatten_get (es := 3) (by intro y hy; obtain ⟨p, _, rfl⟩ := List.mem_map.1 hy; rfl) (by rw [List.length_map]; exact hi) (by decide)]
  simp [List.getD, hi, cell3]
/-- The marks of the first i cards have been cut to size. -/
def psi (ps : List (CardC × AVal)) (i : Nat) : List (CardC × AVal) := (ps.take i).map clipP ++ ps.drop i
theorem psi_len (ps : List (CardC × AVal)) (i : Nat) : (psi ps i).length = ps.length := by
  unfold psi
  simp
  omega
theorem psi_get (ps : List (CardC × AVal)) (i : Nat) (hi : i < ps.length) : (psi ps i)[i]'(by rw [psi_len]; exact hi) = ps[i] := by
  unfold psi
  rw [List.getElem_append_right (by simp; omega)]
  simp [Nat.min_eq_left (Nat.le_of_lt hi)]
theorem psi_next (ps : List (CardC × AVal)) (i : Nat) (hi : i < ps.length) : (psi ps i).set i (clipP ps[i]) = psi ps (i + 1) := by
  unfold psi
  have hl : ((ps.take i).map clipP).length = i := by simp; omega
  rw [List.set_append_right _ _ (by omega), hl, Nat.sub_self, List.drop_eq_getElem_cons hi, List.set_cons_zero, List.take_add_one, List.getElem?_eq_getElem hi, Option.toList_some, List.map_append, List.append_assoc]
  rfl
theorem bufOk_blk {H : AHeap} {es : Nat} {b : Option Buf} {c : Buf} (h : bufOk H es b) (e : b = some c) : H c.blk = none := by subst e; exact h.1
theorem bufH_blk {H : AHeap} {b : Option Buf} {c : Buf} (e : b = some c) : bufH H b = H.set c.blk ⟨c.cells, 0⟩ := by subst e; rfl
theorem readEnd1 (w₀ : World) (h B0 : AHeap) (hs0 : Sub h B0) (kr kx : Nat) (text : Str) (dbg : Bool) (hl : text.length ≤ 1048576) (er : B0 kr = some ⟨[.int .i64 0, .int .i64 0, .int .i64 0], 0⟩) (hr : h kr = none)
    (B M : AHeap) (cb mb : Option Buf) (x : Rd) (ri : RdInv w₀ B0 kx B M cb mb x) (hcards : x.cards ≠ []) (hsm : x.cards.length ≤ 1099511627776) (hrl : readL dbg (splitNL (trimNL text)) 1 .start = (x, okF)) :
    Awp Tryd.prog w₀ 82 (dropSeq 5 (unScope (dropSeq 1 (bodyOf Tryd.f11)))) (noGotoA (retA Tryd.prog w₀ [.tmp 4, .cell 5 34] (ReadR w₀ h text dbg))) [(5, .ptr (.own kr) 0), (6, .ptr (.own kx) 0)] (rdH kx B cb mb x) := by
  obtain ⟨ps, kc, hps, hcb, hv, hL, hMM, hMk⟩ : ∃ (ps : List (CardC × AVal)) (kc : Nat), ps.map (·.1) = x.cards ∧ cb = some ⟨kc, (ps.map cell3).flatten⟩ ∧ bufV 3 cb = .slice (.own kc) 0 ps.length (.grow 3) ∧ (∀ p ∈ ps, IsL w₀ (bufH M mb) 3 p.2 (p.1.marks.map markC)) ∧ bufH M mb kc = none ∧ Sub (bufH M mb) (rdH kx B cb mb x) := by
    rcases ri.cards with ⟨e, _⟩ | ⟨done, c, kc, e1, e2, e3, e4⟩
    · exact absurd e hcards
    · obtain ⟨q1, q2, q3⟩ := bufSwap ri.okc ri.okm
      obtain ⟨p1, p2, p3⟩ := bufPut (d := ⟨rdCells cb x, 0⟩) q2
      have pM := p2.sub ri.subM
      have hf : (done.map cell3).flatten ++ [.bool c.left, .str c.text, bufV 3 mb] = ((done ++ [(c, bufV 3 mb)]).map cell3).flatten := by simp [cell3]
      have hkc : (bufH (B.set kx ⟨rdCells cb x, 0⟩) mb) kc = none := bufOk_blk q3 e2
      have hkx : kc ≠ kx := fun e => by
        rw [p1, e, AHeap.set_same] at hkc
        cases hkc
      have hMB : Sub (bufH M mb) (bufH B mb) := by
        cases mb with
        | none => exact ri.subM
        | some b => exact Sub.set_both ri.subM _ _
      have hkcB : bufH B mb kc = none := by rwa [p1, AHeap.set_ne _ _ hkx] at hkc
      refine ⟨done ++ [(c, bufV 3 mb)], kc, by rw [e1]; simp, by rw [e2, hf], ?_, fun p hp => ?_, hMB.none hkcB, ?_⟩
      · rw [e2, bufV_some, hf, flat_len3]
        simp
      · rw [List.mem_append] at hp
        rcases hp with hp | hp
        · exact (e4 p hp).mono (Sub.buf pM)
        · rw [List.mem_singleton.1 hp]
          exact IsL.buf pM (by decide) e3 (by intro y hy; obtain ⟨m, _, rfl⟩ := List.mem_map.1 hy; rfl) (Sub.refl _)
      · refine Sub.trans hMB ?_
        unfold rdH
        rw [q1, bufH_blk e2]
        refine Sub.trans ?_ (Sub.set hkc)
        rw [p1]
        exact Sub.set (by rw [p3]; exact ri.hk)
  have hkcx : (rdH kx B cb mb x) kc = some ⟨(ps.map cell3).flatten, 0⟩ := by
    have := ri.okm
    unfold rdH
    exact bufAt ri.okm (by rw [hcb]; exact AHeap.set_same _ _ _)
  have hkx := ri.at
  have hne : kx ≠ kc := fun e => by
    rw [← e, hkx] at hkcx
    have := congrArg (fun o => (o.map fun b => b.cells.length).getD 0) hkcx
    simp only [Option.map_some, Option.getD_some, rdCells, List.length_cons, List.length_nil, flat_len3] at this
    omega
  have hlenp : ps.length = x.cards.length := by rw [← hps, List.length_map]
  have hkr := ri.other (ri.sub _ _ er)
  have hrc : kr ≠ kc := fun e => by
    rw [e, hkcx] at hkr
    have := congrArg (fun o => (o.map fun b => b.cells.length).getD 0) hkr
    simp only [Option.map_some, Option.getD_some, List.length_cons, List.length_nil, flat_len3] at this
    have h1 : ps.length = 1 := by omega
    match ps, h1 with
    | [p], _ => simp [cell3] at hkr
  have hhc : h kc = none := by
    cases hc : h kc with
    | none => rfl
    | some b =>
      have := ri.sub _ _ (hs0 _ _ hc)
      have h2 := ri.okc
      rw [hcb] at h2
      have := (AHeap.set_ne B ⟨rdCells (some ⟨kc, (ps.map cell3).flatten⟩) x, 0⟩ hne.symm).symm.trans h2.1
      simp_all
  obtain ⟨H0, hH0⟩ : ∃ H0, H0 = rdH kx B cb mb x := ⟨_, rfl⟩
  have hsub : Sub h H0 := by rw [hH0]; exact hs0.trans ri.above
  rw [← hH0] at hkcx hkx hkr hMk ⊢
  have rix := fun o => rd_own w₀ hkx o
  change Awp _ _ _ (Code.seq _ _) _ _ _
  refine awp_seq ?_
  -- region 15  columns.go:141
  refine awp_rseq [5, 6, 55] (by rfl) fun K hK => ?_
  simp (decide := true) only [aOps_nil, ev, putD, Slots.put, Slots.get, Slots.keep, if_true, if_false, true_and, ↓ap_fieldAddr, pop_fieldAddr, fa71_2, ↓ap_loadL, apL_mk, pLoad_one ag4, List.getD_cons_zero, List.getD_cons_succ, Nat.zero_add, lv_bool, rix, rdCells, hv]
  repeat (with_reducible refine And.intro ?_ ?_; · first | trivial | omega | (intro hg; simp only [Bool.and_eq_true, Bool.or_eq_true, Bool.not_eq_true', Bool.and_eq_false_iff, Bool.or_eq_false_iff, Bool.not_eq_false', decide_eq_true_eq, decide_eq_false_iff_not, eqNil] at hg; omega) )
  apply hK; clear hK K
  refine awp_cond (b := _) rfl (fun hb1 => ?_) (fun hb1 => ?_)
  · try simp only [decide_eq_true_eq, decide_eq_false_iff_not, Bool.not_eq_true', Bool.not_eq_false', Bool.and_eq_true, Bool.and_eq_false_iff, Bool.or_eq_true, Bool.or_eq_false_iff, Bool.true_eq, Bool.false_eq, reduceCtorEq] at hb1
    have hres := readE_odd hl hrl hb1
    -- region 16  columns.go:142
    refine awp_dseq_tail 4 [4, 5] mixed (by kernel_rfl) (by rfl) (by rfl) fun K hK => ?_
    simp (decide := true) only [ev, absV, absS, putD, Slots.put, Slots.get, if_true, if_false, true_and, ↓ap_fieldAddr, pop_fieldAddr, fa71_1, ↓ap_loadL, apL_mk, pLoad_agg ag32 sz32, ↓ap_build, ↓pop_buildL, bld34_0_1, evP, List.map_cons, List.map_nil, ↓ap_assign, pop_assign, cellsAt, List.getD_cons_zero, List.getD_cons_succ, Nat.zero_add, Nat.reduceAdd, lv_int, allLive, Bool.and_true, rix, rdCells, hv]
    repeat (with_reducible refine And.intro ?_ ?_; · first | trivial | omega | (intro hg; simp only [Bool.and_eq_true, Bool.or_eq_true, Bool.not_eq_true', Bool.and_eq_false_iff, Bool.or_eq_false_iff, Bool.not_eq_false', decide_eq_true_eq, decide_eq_false_iff_not, eqNil] at hg; omega) )
    refine aOps_store (v := .agg [.int .i64 4, .int .i64 x.line, .int .i64 x.col]) (by rfl) (by rfl) hkr sz34 (by rfl) (by rfl) (by simp []) (Nat.zero_le _) (by rfl) ?_
    simp only [setAt, AVal.cells, List.set_cons_zero, List.set_cons_succ, Nat.zero_add, Nat.reduceAdd]
    simp (decide := true) only [aOps_nil, putD, Slots.keep, if_true, if_false]
    repeat (with_reducible refine And.intro ?_ ?_; · first | trivial | omega | (intro hg; simp only [Bool.and_eq_true, Bool.or_eq_true, Bool.not_eq_true', Bool.and_eq_false_iff, Bool.or_eq_false_iff, Bool.not_eq_false', decide_eq_true_eq, decide_eq_false_iff_not, eqNil] at hg; omega) )
    apply hK; clear hK K
    refine awp_ret ?_
    try simp only [thenA_ret, noGotoA_ret]
    refine retA_ret h (Sub.trans_set hsub hr) (?_) ?_
    · simp (decide := true) only [resPre, resV_tmp, resV_cell, Slots.get, if_true, if_false, and_true, resV_tmp, resV_cell, pLoad_agg ag34 sz34, rd_set, cellsAt, List.getD_cons_zero, List.getD_cons_succ, Nat.zero_add, Nat.reduceAdd, lv_int, allLive, Bool.and_true, cellsAt, List.getD_cons_zero, List.getD_cons_succ, Nat.zero_add, Nat.reduceAdd, lv_int, allLive, Bool.and_true]
    
    simp (decide := true) only [Slots.get, if_true, if_false, resOfG_two, resV_tmp, resV_cell, pLoad_agg ag34 sz34, rd_set, cellsAt, List.getD_cons_zero, List.getD_cons_succ, Nat.zero_add, Nat.reduceAdd, lv_int, allLive, Bool.and_true, cellsAt, List.getD_cons_zero, List.getD_cons_succ, Nat.zero_add, Nat.reduceAdd, lv_int, allLive, Bool.and_true]
    exact ⟨.nilSlice, by rw [hres]; rfl, by rw [hres]; exact ⟨[], rfl, .nil, by simp⟩, Sub.refl _⟩
  · try simp only [decide_eq_true_eq, decide_eq_false_iff_not, Bool.not_eq_true', Bool.not_eq_false', Bool.and_eq_true, Bool.and_eq_false_iff, Bool.or_eq_true, Bool.or_eq_false_iff, Bool.true_eq, Bool.false_eq, reduceCtorEq] at hb1
    have hres := readE_ok hl hrl hb1
    refine awp_skip ?_
    change Awp _ _ _ _ _ _ _
    refine awp_seq ?_
    -- region 17  columns.go:144
    refine awp_rseq [5, 6, 61, 62] (by rfl) fun K hK => ?_
    simp (decide := true) only [aOps_nil, ev, absV, absS, putD, Slots.put, Slots.get, Slots.keep, if_true, if_false, true_and, ↓ap_fieldAddr, pop_fieldAddr, fa71_0, ↓ap_loadL, apL_mk, pLoad_one ag30, ↓ap_len, pop_len, pLen_slice Tryd.underlying30, ↓ap_move, pop_move, List.getD_cons_zero, Nat.zero_add, lv_slice, rix, rdCells, hv]
    repeat (with_reducible refine And.intro ?_ ?_; · first | trivial | omega | (intro hg; simp only [Bool.and_eq_true, Bool.or_eq_true, Bool.not_eq_true', Bool.and_eq_false_iff, Bool.or_eq_false_iff, Bool.not_eq_false', decide_eq_true_eq, decide_eq_false_iff_not, eqNil] at hg; omega) )
    apply hK; clear hK K
    refine awp_block ?_
    refine awp_loopG [5, 6, 61, 62] (fun i : Nat => [(5, .ptr (.own kr) 0), (6, .ptr (.own kx) 0), (61, .int .i64 ps.length), (62, .int .i64 i)]) (fun i : Nat => H0.set kc ⟨((psi ps i).map cell3).flatten, 0⟩) (fun i : Nat => i ≤ ps.length) (fun i : Nat => ps.length - i) 0 (by rfl) (by rw [show psi ps 0 = ps from rfl, set_same_self hkcx]; exact Sub.refl _) (Nat.zero_le _) ?_
    intro i hi
    have hkxi := (AHeap.set_ne H0 ⟨((psi ps i).map cell3).flatten, 0⟩ hne).trans hkx
    have rii := fun o => rd_own w₀ hkxi o
    -- region 18  columns.go:144
    refine awp_rseq [5, 6, 61, 62, 63] (by rfl) fun K hK => ?_
    simp (decide := true) only [aOps_nil, ev, putD, Slots.put, Slots.get, Slots.keep, if_true, if_false, true_and, ↓ap_binOp, pop_binOp, isNilC_tmp, cond_false, pBinX_int, pI_lss]
    repeat (with_reducible refine And.intro ?_ ?_; · first | trivial | omega | (intro hg; simp only [Bool.and_eq_true, Bool.or_eq_true, Bool.not_eq_true', Bool.and_eq_false_iff, Bool.or_eq_false_iff, Bool.not_eq_false', decide_eq_true_eq, decide_eq_false_iff_not, eqNil] at hg; omega) )
    apply hK; clear hK K
    refine awp_seq (awp_cond (b := _) rfl (fun hb2 => ?_) (fun hb2 => ?_))
    · try simp only [decide_eq_true_eq] at hb2
      have hi' : i < ps.length := by omega
      have hg : ((psi ps i).map cell3).flatten.getD (i * 3 + 2) .dead = (ps[i]).2 := by rw [flat_get _ _ (by rw [psi_len]; exact hi'), psi_get ps i hi']
      have hMi : Sub (bufH M mb) (H0.set kc ⟨((psi ps i).map cell3).flatten, 0⟩) := Sub.trans_set hMk hMM
      have hLi := (hL _ (List.getElem_mem hi')).mono hMi
      have hlv := hLi.live
      refine awp_skip ?_
      change Awp _ _ _ _ _ _ _
      refine awp_seq ?_
      refine awp_block ?_
      -- region 19  columns.go:144
      refine awp_rseq [5, 6, 13, 61, 62] (by rfl) fun K hK => ?_
      simp (decide := true) only [aOps_nil, ev, putD, Slots.put, Slots.get, Slots.keep, if_true, if_false, true_and, ↓ap_move, pop_move, ↓ap_assign, pop_assign]
      repeat (with_reducible refine And.intro ?_ ?_; · first | trivial | omega | (intro hg; simp only [Bool.and_eq_true, Bool.or_eq_true, Bool.not_eq_true', Bool.and_eq_false_iff, Bool.or_eq_false_iff, Bool.not_eq_false', decide_eq_true_eq, decide_eq_false_iff_not, eqNil] at hg; omega) )
      apply hK; clear hK K
      -- region 20  columns.go:145
      refine awp_draw_anyT 12 mixed (by kernel_rfl) (by rfl) ?_
      simp only [List.take_succ_cons, List.take_zero, List.drop_succ_cons, List.drop_zero]
      simp (decide := true) only [ev, putD, Slots.put, Slots.get, if_true, if_false, true_and, ↓vp_fieldAddr, pop_fieldAddr, fa71_0, ↓vp_load, pop_load, pLoad_one ag30, ↓vp_move, pop_move, ↓vp_indexAddr, pIndexAddr_slice Tryd.underlying30 sz39, pop_indexAddr, fa39_2, pLoad_one ag37, rd_any, List.getD_cons_zero, Nat.zero_add, lv_slice, rii, rdCells, hv, Int.toNat_natCast, hg, hlv]
      repeat (with_reducible refine And.intro ?_ ?_; · first | trivial | omega | (intro hg; simp only [Bool.and_eq_true, Bool.or_eq_true, Bool.not_eq_true', Bool.and_eq_false_iff, Bool.or_eq_false_iff, Bool.not_eq_false', decide_eq_true_eq, decide_eq_false_iff_not, eqNil] at hg; omega) )
      refine vOps_callV (V := capL (ps[i]).2) (by rfl) (by rfl) (c_clipM w₀ _ _ _ hLi) ?_
      simp (decide := true) only [vOps_nil, ev, putD, Slots.put, Slots.get, if_true, if_false, true_and, ↓vp_indexAddr, pIndexAddr_slice Tryd.underlying30 sz39, pop_indexAddr, ↓vp_fieldAddr, pop_fieldAddr, fa39_2, Nat.zero_add, Int.toNat_natCast]
      repeat (with_reducible refine And.intro ?_ ?_; · first | trivial | omega | (intro hg; simp only [Bool.and_eq_true, Bool.or_eq_true, Bool.not_eq_true', Bool.and_eq_false_iff, Bool.or_eq_false_iff, Bool.not_eq_false', decide_eq_true_eq, decide_eq_false_iff_not, eqNil] at hg; omega) )
      try simp only [vOps_nil, fOps_nil]
      have hcl := hLi.clip
      have hset : setAt ((psi ps i).map cell3).flatten (i * 3 + 2) [capL (ps[i]).2] = ((psi ps (i + 1)).map cell3).flatten := by
        rw [flat_set _ _ _ (by rw [psi_len]; exact hi'), psi_get ps i hi', ← psi_next ps i hi']
        rfl
      refine aOps_store (v := capL (ps[i]).2) (by rfl) (by rfl) (AHeap.set_same _ _ _) sz37 hcl.live (by rw [hcl.cells]; rfl) (by simp only []; rw [flat_len3, psi_len]; omega) (Nat.zero_le _) (by rw [hcl.cells]; simp [allScal, hcl.scal]) ?_
      rw [AHeap.set_set, hcl.cells]
      simp only []
      rw [hset]
      simp (decide := true) only [aOps_nil, putD]
      repeat (with_reducible refine And.intro ?_ ?_; · first | trivial | omega | (intro hg; simp only [Bool.and_eq_true, Bool.or_eq_true, Bool.not_eq_true', Bool.and_eq_false_iff, Bool.or_eq_false_iff, Bool.not_eq_false', decide_eq_true_eq, decide_eq_false_iff_not, eqNil] at hg; omega) )
      change Awp _ _ _ _ _ _ _
      -- region 21  columns.go:144
      refine awp_r [5, 6, 61, 62] (by rfl) ?_
      simp (decide := true) only [aOps_nil, ev, absV, absS, putD, Slots.put, Slots.get, Slots.keep, if_true, if_false, true_and, ↓ap_binOp, pop_binOp, isNilC_int, cond_false, pBinX_int, pI_add, ↓ap_move, pop_move]
      try simp (disch := omega) only [wrap_i64]
      repeat (with_reducible refine And.intro ?_ ?_; · first | trivial | omega | (intro hg; simp only [Bool.and_eq_true, Bool.or_eq_true, Bool.not_eq_true', Bool.and_eq_false_iff, Bool.or_eq_false_iff, Bool.not_eq_false', decide_eq_true_eq, decide_eq_false_iff_not, eqNil] at hg; omega) )
      try simp only [thenA_normal]
      exact ⟨i + 1, rfl, Sub.refl _, by omega, by omega⟩
    · try simp only [decide_eq_false_iff_not] at hb2
      obtain rfl : i = ps.length := by omega
      have hpsi : psi ps ps.length = ps.map clipP := by simp [psi]
      rw [hpsi] at hkxi rii ⊢
      have hlive : ∀ p ∈ ps, IsL w₀ (H0.set kc ⟨((ps.map clipP).map cell3).flatten, 0⟩) 3 (capL p.2) (p.1.marks.map markC) := fun p hp => ((hL p hp).mono (Sub.trans_set hMk hMM)).clip
      have hLc : IsL w₀ (H0.set kc ⟨((ps.map clipP).map cell3).flatten, 0⟩) 3 (.slice (.own kc) 0 ps.length (.grow 3)) ((ps.map clipP).map cell3) := by
        have := IsL.own (w₀ := w₀) (es := 3) (xs := (ps.map clipP).map cell3) (AHeap.set_same H0 kc ⟨((ps.map clipP).map cell3).flatten, 0⟩) (by intro y hy; obtain ⟨p, _, rfl⟩ := List.mem_map.1 hy; rfl) rfl (allLive_flatten.2 (by
          intro y hy
          obtain ⟨p, hp, rfl⟩ := List.mem_map.1 hy
          obtain ⟨q, hq, rfl⟩ := List.mem_map.1 hp
          show (true && (true && ((capL q.2).live && true))) = true
          rw [(hlive q hq).live]
          rfl)) (.grow 3) rfl
        simpa using this
      have hkr' := (AHeap.set_ne H0 ⟨((ps.map clipP).map cell3).flatten, 0⟩ hrc).trans hkr
      refine awp_exit ?_
      change Awp _ _ _ _ _ _ _
      -- region 22  columns.go:147
      refine awp_rseq [4, 5] (by rfl) fun K hK => ?_
      simp (decide := true) only [ev, putD, Slots.put, Slots.get, if_true, if_false, true_and, ↓ap_fieldAddr, pop_fieldAddr, fa71_0, ↓ap_loadL, apL_mk, pLoad_one ag30, List.getD_cons_zero, Nat.zero_add, lv_slice, rii, rdCells, hv]
      repeat (with_reducible refine And.intro ?_ ?_; · first | trivial | omega | (intro hg; simp only [Bool.and_eq_true, Bool.or_eq_true, Bool.not_eq_true', Bool.and_eq_false_iff, Bool.or_eq_false_iff, Bool.not_eq_false', decide_eq_true_eq, decide_eq_false_iff_not, eqNil] at hg; omega) )
      refine aOps_callV (V := .slice (.own kc) 0 ps.length (.exact ps.length)) (by rfl) (by rfl) (c_clipC w₀ _ _ _ hLc) ?_
      simp (decide := true) only [ev, absV, absS, putD, Slots.put, Slots.get, if_true, if_false, true_and, ↓ap_build, ↓pop_buildL, bld34_, evP, List.map_nil, ↓ap_assign, pop_assign]
      repeat (with_reducible refine And.intro ?_ ?_; · first | trivial | omega | (intro hg; simp only [Bool.and_eq_true, Bool.or_eq_true, Bool.not_eq_true', Bool.and_eq_false_iff, Bool.or_eq_false_iff, Bool.not_eq_false', decide_eq_true_eq, decide_eq_false_iff_not, eqNil] at hg; omega) )
      refine aOps_store (v := .agg [.int .i64 0, .int .i64 0, .int .i64 0]) (by rfl) (by rfl) hkr' sz34 (by rfl) (by rfl) (by simp []) (Nat.zero_le _) (by rfl) ?_
      simp only [setAt, AVal.cells, List.set_cons_zero, List.set_cons_succ, Nat.zero_add, Nat.reduceAdd]
      rw [set_same_self hkr']
      simp (decide := true) only [aOps_nil, putD, Slots.keep, if_true, if_false]
      repeat (with_reducible refine And.intro ?_ ?_; · first | trivial | omega | (intro hg; simp only [Bool.and_eq_true, Bool.or_eq_true, Bool.not_eq_true', Bool.and_eq_false_iff, Bool.or_eq_false_iff, Bool.not_eq_false', decide_eq_true_eq, decide_eq_false_iff_not, eqNil] at hg; omega) )
      apply hK; clear hK K
      refine awp_ret ?_
      try simp only [noGotoA_ret]
      refine retA_ret (H0.set kc ⟨((ps.map clipP).map cell3).flatten, 0⟩) (Sub.refl _) (?_) ?_
      · simp (decide := true) only [resPre, resV_tmp, resV_cell, Slots.get, if_true, if_false, and_true, resV_tmp, resV_cell, pLoad_agg ag34 sz34, cellsAt, List.getD_cons_zero, List.getD_cons_succ, Nat.zero_add, Nat.reduceAdd, lv_int, allLive, Bool.and_true, cellsAt, List.getD_cons_zero, List.getD_cons_succ, Nat.zero_add, Nat.reduceAdd, lv_int, allLive, Bool.and_true, rd_own w₀ hkr']
      
      simp (decide := true) only [Slots.get, if_true, if_false, resOfG_two, resV_tmp, resV_cell, pLoad_agg ag34 sz34, cellsAt, List.getD_cons_zero, List.getD_cons_succ, Nat.zero_add, Nat.reduceAdd, lv_int, allLive, Bool.and_true, cellsAt, List.getD_cons_zero, List.getD_cons_succ, Nat.zero_add, Nat.reduceAdd, lv_int, allLive, Bool.and_true, rd_own w₀ hkr']
      exact ⟨_, by rw [hres]; rfl, by rw [hres]; exact ⟨ps.map clipP, by rw [List.map_map]; exact hps, hLc.clip, fun p hp => by obtain ⟨q, hq, rfl⟩ := List.mem_map.1 hp; exact hlive q hq⟩, Sub.trans_set hsub hhc⟩
theorem readEnd (w₀ : World) (h B0 : AHeap) (hs0 : Sub h B0) (kr kx : Nat) (text : Str) (dbg : Bool) (hl : text.length ≤ 1048576) (er : B0 kr = some ⟨[.int .i64 0, .int .i64 0, .int .i64 0], 0⟩) (hr : h kr = none)
    (B M : AHeap) (cb mb : Option Buf) (x : Rd) (ri : RdInv w₀ B0 kx B M cb mb x) (hsm : x.cards.length ≤ 1099511627776) (hrl : readL dbg (splitNL (trimNL text)) 1 .start = (x, okF)) :
    Awp Tryd.prog w₀ 82 (dropSeq 5 (unScope (dropSeq 1 (bodyOf Tryd.f11)))) (noGotoA (retA Tryd.prog w₀ [.tmp 4, .cell 5 34] (ReadR w₀ h text dbg))) [(5, .ptr (.own kr) 0), (6, .ptr (.own kx) 0)] (rdH kx B cb mb x) := by
  by_cases hc : x.cards = []
  · exact readEnd0 w₀ h B0 hs0 kr kx text dbg hl er hr B M cb mb x ri hc hrl
  · exact readEnd1 w₀ h B0 hs0 kr kx text dbg hl er hr B M cb mb x ri hc hsm hrl
end Go.Proofs.YtikpnhdjjabdmaaDoor

/-
  Contracts: Read of the package columns: its lines.
  Conditions: none.
-/
namespace Go.Proofs.YtikpnhdjjabdmaaDoor
open Go.AM
open Go.Proofs
open Go.Col
set_option maxRecDepth 100000

/-- The lines, one after the other. -/
theorem readLoop (w₀ : World) (hm : MaxL w₀) (h B0 : AHeap) (hs0 : Sub h B0) (kr kx ks : Nat) (text : Str) (dbg : Bool) (lines : List Str) (hln : lines = splitNL (trimNL text)) (hl : text.length ≤ 1048576)
    (er : B0 kr = some ⟨[.int .i64 0, .int .i64 0, .int .i64 0], 0⟩) (hr : h kr = none) (es : B0 ks = some ⟨lines.map AVal.str, 0⟩) (hi : RdInv w₀ B0 kx B0 (fun _ => none) none none .start) :
    Awp Tryd.prog w₀ 82 (dropSeq 4 (unScope (dropSeq 1 (bodyOf Tryd.f11)))) (noGotoA (retA Tryd.prog w₀ [.tmp 4, .cell 5 34] (ReadR w₀ h text dbg))) [(1, .bool dbg), (5, .ptr (.own kr) 0), (6, .ptr (.own kx) 0), (7, .slice (.own ks) 0 lines.length (.exact lines.length))] (rdH kx B0 none none .start) := by
  have hnl : lines.length ≤ 1048577 := by
    rw [hln]
    have := splitNL_len (trimNL text)
    have := trimNL_len text
    omega
  change Awp _ _ _ (Code.seq _ _) _ _ _
  refine awp_seq ?_
  -- region 5  columns.go:129
  refine awp_rseq [1, 5, 6, 21, 22, 23] (by rfl) fun K hK => ?_
  simp (decide := true) only [aOps_nil, ev, absV, absS, putD, Slots.put, Slots.get, Slots.keep, if_true, if_false, true_and, ↓ap_move, pop_move, ↓ap_len, pop_len, pLen_slice Tryd.underlying40]
  repeat (with_reducible refine And.intro ?_ ?_; · first | trivial | omega | (intro hg; simp only [Bool.and_eq_true, Bool.or_eq_true, Bool.not_eq_true', Bool.and_eq_false_iff, Bool.or_eq_false_iff, Bool.not_eq_false', decide_eq_true_eq, decide_eq_false_iff_not, eqNil] at hg; omega) )
  apply hK; clear hK K
  refine awp_block ?_
  refine awp_loopG [1, 5, 6, 21, 22, 23] (fun g : RdL => [(1, .bool dbg), (5, .ptr (.own kr) 0), (6, .ptr (.own kx) 0), (21, .slice (.own ks) 0 lines.length (.exact lines.length)), (22, .int .i64 lines.length), (23, .int .i64 g.i)]) (fun g : RdL => rdH kx g.B g.cb g.mb g.x) (fun g : RdL => RdInv w₀ B0 kx g.B g.M g.cb g.mb g.x ∧ g.i ≤ lines.length ∧ RdSm g.i g.x ∧ readL dbg (lines.drop g.i) (g.i + 1) g.x = readL dbg lines 1 .start) (fun g : RdL => lines.length - g.i) ⟨0, B0, fun _ => none, none, none, .start⟩ (by rfl) (Sub.refl _) ⟨hi, Nat.zero_le _, ⟨by simp [Rd.start], by simp [Rd.start]⟩, rfl⟩ ?_
  rintro ⟨i, B, M, cb, mb, x⟩ ⟨ri, hin, hsm, hrl⟩
  simp only at ri hin hsm hrl ⊢
  have rix := fun o => rd_own w₀ ri.at o
  -- region 6  columns.go:129
  refine awp_rseq [1, 5, 6, 21, 22, 23, 24] (by rfl) fun K hK => ?_
  simp (decide := true) only [aOps_nil, ev, putD, Slots.put, Slots.get, Slots.keep, if_true, if_false, true_and, ↓ap_binOp, pop_binOp, isNilC_tmp, cond_false, pBinX_int, pI_lss]
  repeat (with_reducible refine And.intro ?_ ?_; · first | trivial | omega | (intro hg; simp only [Bool.and_eq_true, Bool.or_eq_true, Bool.not_eq_true', Bool.and_eq_false_iff, Bool.or_eq_false_iff, Bool.not_eq_false', decide_eq_true_eq, decide_eq_false_iff_not, eqNil] at hg; omega) )
  apply hK; clear hK K
  refine awp_seq (awp_cond (b := _) rfl (fun hb1 => ?_) (fun hb1 => ?_))
  · try simp only [decide_eq_true_eq] at hb1
    have hi' : i < lines.length := by omega
    have eks := ri.above _ _ es
    have rks := fun o => rd_own w₀ eks o
    have eg : (lines.map AVal.str).getD i .dead = .str (lines.getD i []) := by simp [List.getD, hi']
    obtain ⟨r, cn, f, hp⟩ : ∃ r cn f, lineE (lines.getD i []) ((i : Int) + 1) dbg = (r, cn, f) := ⟨_, _, _, rfl⟩
    have hsl := lineE_small (s := lines.getD i []) (line := (i : Int) + 1) (dbg := dbg)
    rw [hp] at hsl
    simp only at hsl
    have hlm : (lines.getD i []).length ≤ 1048576 := by
      have h1 := splitNL_mem (trimNL text) (lines.getD i []) (by rw [← hln, List.getD, List.getElem?_eq_getElem hi']; exact List.getElem_mem hi')
      have h2 := trimNL_len text
      omega
    have hdrop : lines.drop i = lines.getD i [] :: lines.drop (i + 1) := by rw [List.drop_eq_getElem_cons hi']; simp [List.getD, hi']
    refine awp_skip ?_
    change Awp _ _ _ _ _ _ _
    refine awp_seq ?_
    refine awp_block ?_
    -- region 7  columns.go:129
    refine awp_rseq [1, 5, 6, 8, 9, 21, 22, 23] (by rfl) fun K hK => ?_
    simp (decide := true) only [aOps_nil, ev, putD, Slots.put, Slots.get, Slots.keep, if_true, if_false, true_and, ↓ap_move, pop_move, ↓ap_indexAddrL, apL_mk, pIndexAddr_slice Tryd.underlying40 sz9, ↓ap_loadL, pLoad_one ag9, ↓ap_assign, pop_assign, Nat.zero_add, lv_str, rks, eg, Int.toNat_natCast, Nat.mul_one]
    repeat (with_reducible refine And.intro ?_ ?_; · first | trivial | omega | (intro hg; simp only [Bool.and_eq_true, Bool.or_eq_true, Bool.not_eq_true', Bool.and_eq_false_iff, Bool.or_eq_false_iff, Bool.not_eq_false', decide_eq_true_eq, decide_eq_false_iff_not, eqNil] at hg; omega) )
    apply hK; clear hK K
    -- region 8  columns.go:130
    refine awp_rseq [1, 5, 6, 10, 11, 12, 21, 22, 23] (by rfl) fun K hK => ?_
    simp (decide := true) only [ev, absV, absS, putD, Slots.put, Slots.get, if_true, if_false, true_and, ↓ap_move, pop_move, ↓ap_binOp, pop_binOp, isNilC_int, cond_false, pBinX_int, pI_add]
    try simp (disch := omega) only [wrap_i64]
    repeat (with_reducible refine And.intro ?_ ?_; · first | trivial | omega | (intro hg; simp only [Bool.and_eq_true, Bool.or_eq_true, Bool.not_eq_true', Bool.and_eq_false_iff, Bool.or_eq_false_iff, Bool.not_eq_false', decide_eq_true_eq, decide_eq_false_iff_not, eqNil] at hg; omega) )
    refine aOps_callV (V := .tuple [rowA r, .bool cn, faultA f]) (by rfl) (by rfl) ((c_read w₀ _ (lines.getD i []) ((i : Int) + 1) dbg (by omega) (by omega) (by omega)).val (by rw [hp])) ?_
    simp (decide := true) only [ev, putD, Slots.put, Slots.get, if_true, if_false, true_and, ↓ap_move, pop_move, ↓ap_extract, pop_extract, pExt_tuple, List.length_cons, List.length_nil, List.getD_cons_zero, List.getD_cons_succ, List.getD_cons_zero, List.getD_cons_succ, Nat.zero_add, Nat.reduceAdd, faultA, rowA]
    repeat (with_reducible refine And.intro ?_ ?_; · first | trivial | omega | (intro hg; simp only [Bool.and_eq_true, Bool.or_eq_true, Bool.not_eq_true', Bool.and_eq_false_iff, Bool.or_eq_false_iff, Bool.not_eq_false', decide_eq_true_eq, decide_eq_false_iff_not, eqNil] at hg; omega) )
    refine aOps_alloc ze73 (cs := [.int .i64 0, .bool false, .str [], .int .i64 0]) (by rfl) fun k8q9 hk8q9 => ?_
    try have hf_8q9 : (rdH kx B0 none none .start) k8q9 = none := by first | assumption | (simp only [AHeap.set_none] at hk8q9; simp only [hk8q9])
    refine aOps_alloc ze34 (cs := [.int .i64 0, .int .i64 0, .int .i64 0]) (by rfl) fun k8q10 hk8q10 => ?_
    have ne_8q10_8q9 : k8q10 ≠ k8q9 := by simp only [AHeap.set_none] at hk8q10; simp only [hk8q10, ne_eq, not_false_eq_true]
    try have hf_8q10 : (rdH kx B0 none none .start) k8q10 = none := by first | assumption | (simp only [AHeap.set_none] at hk8q10; simp only [hk8q10])
    refine aOps_store (by rfl) (by rfl) (by repeat (first | exact AHeap.set_same _ _ _ | assumption | refine (AHeap.set_ne _ _ (by first | assumption | exact Ne.symm (by assumption))).trans ?_)) sz73 (by rfl) (by rfl) (by first | exact Nat.le_refl _ | decide | (simp; done) | (simp; omega)) (Nat.zero_le _) (by rfl) ?_
    simp only [AVal.cells]
    simp (decide := true) only [ev, putD, Slots.put, Slots.get, if_true, if_false, true_and, ↓ap_assign, pop_assign, setAt, List.set_cons_zero, List.set_cons_succ, Nat.zero_add, Nat.reduceAdd]
    repeat (with_reducible refine And.intro ?_ ?_; · first | trivial | omega | (intro hg; simp only [Bool.and_eq_true, Bool.or_eq_true, Bool.not_eq_true', Bool.and_eq_false_iff, Bool.or_eq_false_iff, Bool.not_eq_false', decide_eq_true_eq, decide_eq_false_iff_not, eqNil] at hg; omega) )
    refine aOps_store (by rfl) (by rfl) (by repeat (first | exact AHeap.set_same _ _ _ | assumption | refine (AHeap.set_ne _ _ (by first | assumption | exact Ne.symm (by assumption))).trans ?_)) sz34 (by rfl) (by rfl) (by first | exact Nat.le_refl _ | decide | (simp; done) | (simp; omega)) (Nat.zero_le _) (by rfl) ?_
    simp only [AVal.cells]
    simp (decide := true) only [aOps_nil, ev, putD, Slots.get, Slots.keep, if_true, if_false, setAt, List.set_cons_zero, List.set_cons_succ, Nat.zero_add, Nat.reduceAdd]
    repeat (with_reducible refine And.intro ?_ ?_; · first | trivial | omega | (intro hg; simp only [Bool.and_eq_true, Bool.or_eq_true, Bool.not_eq_true', Bool.and_eq_false_iff, Bool.or_eq_false_iff, Bool.not_eq_false', decide_eq_true_eq, decide_eq_false_iff_not, eqNil] at hg; omega) )
    apply hK; clear hK K
    refine awp_seq ?_
    have hnorm : ((((rdH kx B cb mb x).set k8q9 ⟨[.int .i64 0, .bool false, .str [], .int .i64 0], 0⟩).set k8q10 ⟨[.int .i64 0, .int .i64 0, .int .i64 0], 0⟩).set k8q9 ⟨[.int .i64 r.line, .bool r.more, .str r.text, .int .i64 r.col], 0⟩).set k8q10 ⟨[.int .i64 f.e, .int .i64 f.line, .int .i64 f.col], 0⟩ = ((rdH kx B cb mb x).set k8q9 ⟨[.int .i64 r.line, .bool r.more, .str r.text, .int .i64 r.col], 0⟩).set k8q10 ⟨[.int .i64 f.e, .int .i64 f.line, .int .i64 f.col], 0⟩ := by
      rw [AHeap.set_comm ((rdH kx B cb mb x).set k8q9 ⟨[.int .i64 0, .bool false, .str [], .int .i64 0], 0⟩) _ _ ne_8q10_8q9.symm, AHeap.set_set, AHeap.set_set]
    rw [hnorm]
    obtain ⟨a1, a2, a3, a4⟩ := rdH_new ri hk8q9 ⟨[.int .i64 r.line, .bool r.more, .str r.text, .int .i64 r.col], 0⟩
    have hk2 : rdH kx (B.set k8q9 ⟨[.int .i64 r.line, .bool r.more, .str r.text, .int .i64 r.col], 0⟩) cb mb x k8q10 = none := by
      rw [← a1, AHeap.set_ne _ _ ne_8q10_8q9]
      rwa [AHeap.set_ne _ _ ne_8q10_8q9] at hk8q10
    obtain ⟨b1, b2, b3, b4⟩ := rdH_new a2 hk2 ⟨[.int .i64 f.e, .int .i64 f.line, .int .i64 f.col], 0⟩
    rw [a1, b1]
    obtain ⟨B₁, hB₁⟩ : ∃ B₁, B₁ = (B.set k8q9 ⟨[.int .i64 r.line, .bool r.more, .str r.text, .int .i64 r.col], 0⟩).set k8q10 ⟨[.int .i64 f.e, .int .i64 f.line, .int .i64 f.col], 0⟩ := ⟨_, rfl⟩
    rw [← hB₁] at b2 ⊢
    have e0 : B₁ k8q9 = some ⟨[.int .i64 r.line, .bool r.more, .str r.text, .int .i64 r.col], 0⟩ := by rw [hB₁, AHeap.set_ne _ _ ne_8q10_8q9.symm, AHeap.set_same]
    have e1 : B₁ k8q10 = some ⟨[.int .i64 f.e, .int .i64 f.line, .int .i64 f.col], 0⟩ := by rw [hB₁, AHeap.set_same]
    have hB8 : B k8q10 = none := by rwa [AHeap.set_ne _ _ ne_8q10_8q9] at b4
    have s0 := fun o => rd_own w₀ (b2.other e0) o
    have s1 := fun o => rd_own w₀ (b2.other e1) o
    -- region 9  columns.go:131
    refine awp_rseq [1, 5, 6, 10, 12, 21, 22, 23, 43] (by rfl) fun K hK => ?_
    simp (decide := true) only [aOps_nil, ev, absV, absS, putD, Slots.put, Slots.get, Slots.keep, if_true, if_false, true_and, ↓ap_loadL, apL_mk, pLoad_agg ag34 sz34, ↓ap_build, ↓pop_buildL, bld34_, evP, List.map_nil, ↓ap_binOp, pop_binOp, isNilC_tmp, cond_false, pBinX_agg, eq34, ↓ap_move, pop_move, ↓ag_move, agP, agQ_some, nthDst, gKnown_bool, guardB_bool_true, implies_true, Bool.and_true, ↓ag_unOp, pop_unOp, pU_not, cv_un, cp_un, ↓ap_pick, pop_pick, pPick_bool, pickV_cond_l, pickV_and, cellsAt, List.getD_cons_zero, List.getD_cons_succ, Nat.zero_add, Nat.reduceAdd, lv_int, allLive, Bool.and_true, s1, faultA_eq]
    try simp (disch := omega) only [wrap_i64, wrap_u8]
    repeat (with_reducible refine And.intro ?_ ?_; · first | trivial | omega | (intro hg; simp only [Bool.and_eq_true, Bool.or_eq_true, Bool.not_eq_true', Bool.and_eq_false_iff, Bool.or_eq_false_iff, Bool.not_eq_false', decide_eq_true_eq, decide_eq_false_iff_not, eqNil] at hg; omega) )
    apply hK; clear hK K
    refine awp_cond (b := _) rfl (fun hb2 => ?_) (fun hb2 => ?_)
    · try simp only [decide_eq_true_eq, Bool.not_eq_true', Bool.and_eq_true] at hb2
      have iz := b2
      have gz := hsm.next
      have lz : readL dbg (lines.drop (i + 1)) (((i + 1 : Nat) : Int) + 1) x = readL dbg lines 1 .start := by
        rw [← hrl, hdrop, readL_skip (by rw [hp, hb2.2]) hb2.1]
        rfl
      refine awp_exit ?_
      change Awp _ _ _ _ _ _ _
      -- region 14  columns.go:129
      refine awp_r [1, 5, 6, 21, 22, 23] (by rfl) ?_
      simp (decide := true) only [aOps_nil, ev, absV, absS, putD, Slots.put, Slots.get, Slots.keep, if_true, if_false, true_and, ↓ap_binOp, pop_binOp, isNilC_int, cond_false, pBinX_int, pI_add, ↓ap_move, pop_move]
      try simp (disch := omega) only [wrap_i64]
      repeat (with_reducible refine And.intro ?_ ?_; · first | trivial | omega | (intro hg; simp only [Bool.and_eq_true, Bool.or_eq_true, Bool.not_eq_true', Bool.and_eq_false_iff, Bool.or_eq_false_iff, Bool.not_eq_false', decide_eq_true_eq, decide_eq_false_iff_not, eqNil] at hg; omega) )
      try simp only [thenA_normal]
      exact ⟨⟨i + 1, _, _, _, _, _⟩, rfl, Sub.refl _, ⟨iz, by simp only; omega, gz, lz⟩, by simp only; omega⟩
    · try simp only [decide_eq_false_iff_not, Bool.not_eq_false', Bool.and_eq_false_iff] at hb2
      refine awp_skip ?_
      change Awp _ _ _ _ _ _ _
      refine awp_seq ?_
      -- region 10  columns.go:134
      refine awp_rseq [1, 5, 6, 10, 12, 21, 22, 23, 46] (by rfl) fun K hK => ?_
      simp (decide := true) only [aOps_nil, ev, absV, absS, putD, Slots.put, Slots.get, Slots.keep, if_true, if_false, true_and, ↓ap_loadL, apL_mk, pLoad_agg ag34 sz34, ↓ap_build, ↓pop_buildL, bld34_, evP, List.map_nil, ↓ap_binOp, pop_binOp, isNilC_tmp, cond_false, pBinX_agg, eq34, cellsAt, List.getD_cons_zero, List.getD_cons_succ, Nat.zero_add, Nat.reduceAdd, lv_int, allLive, Bool.and_true, s1, faultA_eq]
      repeat (with_reducible refine And.intro ?_ ?_; · first | trivial | omega | (intro hg; simp only [Bool.and_eq_true, Bool.or_eq_true, Bool.not_eq_true', Bool.and_eq_false_iff, Bool.or_eq_false_iff, Bool.not_eq_false', decide_eq_true_eq, decide_eq_false_iff_not, eqNil] at hg; omega) )
      apply hK; clear hK K
      refine awp_cond (b := _) rfl (fun hb3 => ?_) (fun hb3 => ?_)
      · try simp only [decide_eq_true_eq] at hb3
        have hcn : cn = true := by
          cases hcn : cn with
          | true => rfl
          | false =>
            rcases hb2 with e | e
            · exact absurd hb3 e
            · rw [hcn] at e
              cases e
        subst hcn
        -- region 11  columns.go:135
        refine awp_r [1, 5, 6, 12, 21, 22, 23] (by rfl) ?_
        simp (decide := true) only [ev, putD, Slots.put, Slots.get, if_true, if_false, true_and, ↓ap_loadL, apL_mk, pLoad_agg ag73 sz73, cellsAt, List.getD_cons_zero, List.getD_cons_succ, Nat.zero_add, Nat.reduceAdd, lv_bool, lv_int, lv_str, allLive, Bool.and_true, s0]
        repeat (with_reducible refine And.intro ?_ ?_; · first | trivial | omega | (intro hg; simp only [Bool.and_eq_true, Bool.or_eq_true, Bool.not_eq_true', Bool.and_eq_false_iff, Bool.or_eq_false_iff, Bool.not_eq_false', decide_eq_true_eq, decide_eq_false_iff_not, eqNil] at hg; omega) )
        refine aOps_call (by rfl) (by rfl) (c_take w₀ B0 kx B₁ M cb mb x b2 r (fun c hc => by have := hsm.small c hc; omega) (by have := hsm.many; omega) (by omega) (hsl.2 rfl).1 (hsl.2 rfl).2.1 (by have := (hsl.2 rfl).2.2; omega)) fun x11q1 h11q1 hx11q1 => ?_
        obtain ⟨ex, B', M', cb', mb', rfl, i2, s2, m2⟩ := hx11q1
        obtain ⟨fz, hfz⟩ : ∃ fz, fz = (takeE x r).2 := ⟨_, rfl⟩
        rw [← hfz] at ex
        subst ex
        have hM8 : M' k8q10 = none := m2 _ (by rw [e1]; simp) (ri.subM.none hB8)
        obtain ⟨c1, iz⟩ := i2.put (s2 _ _ e1) (ri.sub.none hB8) hM8 ⟨[.int .i64 fz.e, .int .i64 fz.line, .int .i64 fz.col], 0⟩
        have gz := takeE_small hsm (r := r) (by omega)
        refine aOps_store (v := .agg [.int .i64 fz.e, .int .i64 fz.line, .int .i64 fz.col]) (by rfl) (by rfl) (i2.other (s2 _ _ e1)) sz34 (by rfl) (by rfl) (by simp []) (Nat.zero_le _) (by rfl) ?_
        simp only [setAt, AVal.cells, List.set_cons_zero, List.set_cons_succ, Nat.zero_add, Nat.reduceAdd]
        rw [c1]
        have ez := AHeap.set_same B' k8q10 ⟨[.int .i64 fz.e, .int .i64 fz.line, .int .i64 fz.col], 0⟩
        simp (decide := true) only [aOps_nil, putD, Slots.put, Slots.keep, if_true, if_false, faultA]
        repeat (with_reducible refine And.intro ?_ ?_; · first | trivial | omega | (intro hg; simp only [Bool.and_eq_true, Bool.or_eq_true, Bool.not_eq_true', Bool.and_eq_false_iff, Bool.or_eq_false_iff, Bool.not_eq_false', decide_eq_true_eq, decide_eq_false_iff_not, eqNil] at hg; omega) )
        change Awp _ _ _ _ _ _ _
        -- region 12  columns.go:137
        refine awp_rseq [1, 5, 6, 12, 21, 22, 23, 51] (by rfl) fun K hK => ?_
        simp (decide := true) only [aOps_nil, ev, absV, absS, putD, Slots.put, Slots.get, Slots.keep, if_true, if_false, true_and, ↓ap_loadL, apL_mk, pLoad_agg ag34 sz34, ↓ap_build, ↓pop_buildL, bld34_, evP, List.map_nil, ↓ap_binOp, pop_binOp, isNilC_tmp, cond_false, pBinX_agg, ne34, cellsAt, List.getD_cons_zero, List.getD_cons_succ, Nat.zero_add, Nat.reduceAdd, lv_int, allLive, Bool.and_true, rd_own w₀ (iz.other ez), faultA_eq]
        repeat (with_reducible refine And.intro ?_ ?_; · first | trivial | omega | (intro hg; simp only [Bool.and_eq_true, Bool.or_eq_true, Bool.not_eq_true', Bool.and_eq_false_iff, Bool.or_eq_false_iff, Bool.not_eq_false', decide_eq_true_eq, decide_eq_false_iff_not, eqNil] at hg; omega) )
        apply hK; clear hK K
        refine awp_cond (b := _) rfl (fun hb4 => ?_) (fun hb4 => ?_)
        · try simp only [decide_eq_false_iff_not, Bool.not_eq_true'] at hb4
          have hres := readE_fault (text := text) (dbg := dbg) hl (by rw [← hln, ← hrl, hdrop, readL_bad hp hb3 (by rw [← hfz]; exact hb4)]) (by rw [← hfz]; exact hb4)
          rw [← hfz] at hres
          -- region 13  columns.go:138
          refine awp_dseq_tail 2 [4, 5] mixed (by kernel_rfl) (by rfl) (by rfl) fun K hK => ?_
          simp (decide := true) only [ev, absV, absS, putD, Slots.put, Slots.get, if_true, if_false, true_and, ↓ap_loadL, apL_mk, pLoad_agg ag34 sz34, ↓ap_assign, pop_assign, cellsAt, List.getD_cons_zero, List.getD_cons_succ, Nat.zero_add, Nat.reduceAdd, lv_int, allLive, Bool.and_true, rd_own w₀ (iz.other ez)]
          repeat (with_reducible refine And.intro ?_ ?_; · first | trivial | omega | (intro hg; simp only [Bool.and_eq_true, Bool.or_eq_true, Bool.not_eq_true', Bool.and_eq_false_iff, Bool.or_eq_false_iff, Bool.not_eq_false', decide_eq_true_eq, decide_eq_false_iff_not, eqNil] at hg; omega) )
          refine aOps_store (v := .agg [.int .i64 fz.e, .int .i64 fz.line, .int .i64 fz.col]) (by rfl) (by rfl) (iz.other (iz.sub _ _ er)) sz34 (by rfl) (by rfl) (by simp []) (Nat.zero_le _) (by rfl) ?_
          simp only [setAt, AVal.cells, List.set_cons_zero, List.set_cons_succ, Nat.zero_add, Nat.reduceAdd]
          simp (decide := true) only [aOps_nil, putD, Slots.keep, if_true, if_false]
          repeat (with_reducible refine And.intro ?_ ?_; · first | trivial | omega | (intro hg; simp only [Bool.and_eq_true, Bool.or_eq_true, Bool.not_eq_true', Bool.and_eq_false_iff, Bool.or_eq_false_iff, Bool.not_eq_false', decide_eq_true_eq, decide_eq_false_iff_not, eqNil] at hg; omega) )
          apply hK; clear hK K
          refine awp_ret ?_
          try simp only [thenA_ret, inBlockA_ret, noGotoA_ret]
          refine retA_ret h (Sub.trans_set (hs0.trans iz.above) hr) (?_) ?_
          · simp (decide := true) only [resPre, resV_tmp, resV_cell, Slots.get, if_true, if_false, and_true, resV_tmp, resV_cell, pLoad_agg ag34 sz34, rd_set, cellsAt, List.getD_cons_zero, List.getD_cons_succ, Nat.zero_add, Nat.reduceAdd, lv_int, allLive, Bool.and_true, cellsAt, List.getD_cons_zero, List.getD_cons_succ, Nat.zero_add, Nat.reduceAdd, lv_int, allLive, Bool.and_true]
          
          simp (decide := true) only [Slots.get, if_true, if_false, resOfG_two, resV_tmp, resV_cell, pLoad_agg ag34 sz34, rd_set, cellsAt, List.getD_cons_zero, List.getD_cons_succ, Nat.zero_add, Nat.reduceAdd, lv_int, allLive, Bool.and_true, cellsAt, List.getD_cons_zero, List.getD_cons_succ, Nat.zero_add, Nat.reduceAdd, lv_int, allLive, Bool.and_true]
          exact ⟨.nilSlice, by rw [hres]; rfl, by rw [hres]; exact ⟨[], rfl, .nil, by simp⟩, Sub.refl _⟩
        · try simp only [decide_eq_true_eq, Bool.not_eq_false'] at hb4
          have lz : readL dbg (lines.drop (i + 1)) (((i + 1 : Nat) : Int) + 1) (takeE x r).1 = readL dbg lines 1 .start := by
            rw [← hrl, hdrop, readL_take hp hb3 (by rw [← hfz]; exact hb4)]
            rfl
          refine awp_skip ?_
          change Awp _ _ _ _ _ _ _
          -- region 14  columns.go:129
          refine awp_r [1, 5, 6, 21, 22, 23] (by rfl) ?_
          simp (decide := true) only [aOps_nil, ev, absV, absS, putD, Slots.put, Slots.get, Slots.keep, if_true, if_false, true_and, ↓ap_binOp, pop_binOp, isNilC_int, cond_false, pBinX_int, pI_add, ↓ap_move, pop_move]
          try simp (disch := omega) only [wrap_i64]
          repeat (with_reducible refine And.intro ?_ ?_; · first | trivial | omega | (intro hg; simp only [Bool.and_eq_true, Bool.or_eq_true, Bool.not_eq_true', Bool.and_eq_false_iff, Bool.or_eq_false_iff, Bool.not_eq_false', decide_eq_true_eq, decide_eq_false_iff_not, eqNil] at hg; omega) )
          try simp only [thenA_normal]
          exact ⟨⟨i + 1, _, _, _, _, _⟩, rfl, Sub.refl _, ⟨iz, by simp only; omega, gz, lz⟩, by simp only; omega⟩
      · try simp only [decide_eq_false_iff_not] at hb3
        have iz := b2
        have ez := e1
        obtain ⟨fz, hfz⟩ : ∃ fz, fz = f := ⟨_, rfl⟩
        subst hfz
        refine awp_skip ?_
        change Awp _ _ _ _ _ _ _
        -- region 12  columns.go:137
        refine awp_rseq [1, 5, 6, 12, 21, 22, 23, 51] (by rfl) fun K hK => ?_
        simp (decide := true) only [aOps_nil, ev, absV, absS, putD, Slots.put, Slots.get, Slots.keep, if_true, if_false, true_and, ↓ap_loadL, apL_mk, pLoad_agg ag34 sz34, ↓ap_build, ↓pop_buildL, bld34_, evP, List.map_nil, ↓ap_binOp, pop_binOp, isNilC_tmp, cond_false, pBinX_agg, ne34, cellsAt, List.getD_cons_zero, List.getD_cons_succ, Nat.zero_add, Nat.reduceAdd, lv_int, allLive, Bool.and_true, s1, faultA_eq]
        repeat (with_reducible refine And.intro ?_ ?_; · first | trivial | omega | (intro hg; simp only [Bool.and_eq_true, Bool.or_eq_true, Bool.not_eq_true', Bool.and_eq_false_iff, Bool.or_eq_false_iff, Bool.not_eq_false', decide_eq_true_eq, decide_eq_false_iff_not, eqNil] at hg; omega) )
        apply hK; clear hK K
        refine awp_cond (b := _) rfl (fun hb5 => ?_) (fun hb5 => ?_)
        · try simp only [decide_eq_false_iff_not, Bool.not_eq_true'] at hb5
          have hres := readE_fault (text := text) (dbg := dbg) hl (by rw [← hln, ← hrl, hdrop, readL_fault hp hb3]) hb3
          -- region 13  columns.go:138
          refine awp_dseq_tail 2 [4, 5] mixed (by kernel_rfl) (by rfl) (by rfl) fun K hK => ?_
          simp (decide := true) only [ev, absV, absS, putD, Slots.put, Slots.get, if_true, if_false, true_and, ↓ap_loadL, apL_mk, pLoad_agg ag34 sz34, ↓ap_assign, pop_assign, cellsAt, List.getD_cons_zero, List.getD_cons_succ, Nat.zero_add, Nat.reduceAdd, lv_int, allLive, Bool.and_true, s1]
          repeat (with_reducible refine And.intro ?_ ?_; · first | trivial | omega | (intro hg; simp only [Bool.and_eq_true, Bool.or_eq_true, Bool.not_eq_true', Bool.and_eq_false_iff, Bool.or_eq_false_iff, Bool.not_eq_false', decide_eq_true_eq, decide_eq_false_iff_not, eqNil] at hg; omega) )
          refine aOps_store (v := .agg [.int .i64 fz.e, .int .i64 fz.line, .int .i64 fz.col]) (by rfl) (by rfl) (iz.other (iz.sub _ _ er)) sz34 (by rfl) (by rfl) (by simp []) (Nat.zero_le _) (by rfl) ?_
          simp only [setAt, AVal.cells, List.set_cons_zero, List.set_cons_succ, Nat.zero_add, Nat.reduceAdd]
          simp (decide := true) only [aOps_nil, putD, Slots.keep, if_true, if_false]
          repeat (with_reducible refine And.intro ?_ ?_; · first | trivial | omega | (intro hg; simp only [Bool.and_eq_true, Bool.or_eq_true, Bool.not_eq_true', Bool.and_eq_false_iff, Bool.or_eq_false_iff, Bool.not_eq_false', decide_eq_true_eq, decide_eq_false_iff_not, eqNil] at hg; omega) )
          apply hK; clear hK K
          refine awp_ret ?_
          try simp only [thenA_ret, inBlockA_ret, noGotoA_ret]
          refine retA_ret h (Sub.trans_set (hs0.trans iz.above) hr) (?_) ?_
          · simp (decide := true) only [resPre, resV_tmp, resV_cell, Slots.get, if_true, if_false, and_true, resV_tmp, resV_cell, pLoad_agg ag34 sz34, rd_set, cellsAt, List.getD_cons_zero, List.getD_cons_succ, Nat.zero_add, Nat.reduceAdd, lv_int, allLive, Bool.and_true, cellsAt, List.getD_cons_zero, List.getD_cons_succ, Nat.zero_add, Nat.reduceAdd, lv_int, allLive, Bool.and_true]
          
          simp (decide := true) only [Slots.get, if_true, if_false, resOfG_two, resV_tmp, resV_cell, pLoad_agg ag34 sz34, rd_set, cellsAt, List.getD_cons_zero, List.getD_cons_succ, Nat.zero_add, Nat.reduceAdd, lv_int, allLive, Bool.and_true, cellsAt, List.getD_cons_zero, List.getD_cons_succ, Nat.zero_add, Nat.reduceAdd, lv_int, allLive, Bool.and_true]
          exact ⟨.nilSlice, by rw [hres]; rfl, by rw [hres]; exact ⟨[], rfl, .nil, by simp⟩, Sub.refl _⟩
        · try simp only [decide_eq_true_eq, Bool.not_eq_false'] at hb5
          exact absurd hb5 hb3
  · try simp only [decide_eq_false_iff_not] at hb1
    obtain rfl : i = lines.length := by omega
    have hdone : readL dbg (splitNL (trimNL text)) 1 .start = (x, okF) := by
      rw [← hln, ← hrl, List.drop_length]
      rfl
    refine awp_exit ?_
    change Awp _ _ _ _ _ _ _
    refine Awp.keep [5, 6] ?_
    exact readEnd w₀ h B0 hs0 kr kx text dbg hl er hr B M cb mb x ri (by have := hsm.many; omega) hdone

theorem readE_long {text : Str} {dbg : Bool} (hl : 1048576 < text.length) : readE text dbg = ([], ⟨3, 0, 0⟩) := by
  unfold readE
  rw [if_pos hl]
theorem c_Read (w₀ : World) (hm : MaxL w₀) (h : AHeap) (text : Str) (dbg : Bool) (hl : text.length ≤ 9223372036854775807) : ACall Tryd.prog w₀ 11 [.str text, .bool dbg] h (ReadR w₀ h text dbg) := by
  refine acall_intro (n := 82) (rs := [.tmp 4, .cell 5 34]) Tryd.func11 rfl rfl rfl rfl (Nat.le_of_ble_eq_true rfl) ?_
  simp only [initSlots]
  -- region 0  columns.go:122
  refine awp_rseq [0, 1, 5] (by rfl) fun K hK => ?_
  simp (decide := true) only [ev, absV, absS, putD, Slots.put, if_false, true_and, ↓ap_assign, pop_assign, Nat.zero_add]
  repeat (with_reducible refine And.intro ?_ ?_; · first | trivial | omega | (intro hg; simp only [Bool.and_eq_true, Bool.or_eq_true, Bool.not_eq_true', Bool.and_eq_false_iff, Bool.or_eq_false_iff, Bool.not_eq_false', decide_eq_true_eq, decide_eq_false_iff_not, eqNil] at hg; omega) )
  refine aOps_alloc ze34 (cs := [.int .i64 0, .int .i64 0, .int .i64 0]) (by rfl) fun k0q1 hk0q1 => ?_
  try have hf_0q1 : h k0q1 = none := by first | assumption | (simp only [AHeap.set_none] at hk0q1; simp only [hk0q1])
  simp (decide := true) only [aOps_nil, putD, Slots.put, Slots.keep, if_true, if_false]
  repeat (with_reducible refine And.intro ?_ ?_; · first | trivial | omega | (intro hg; simp only [Bool.and_eq_true, Bool.or_eq_true, Bool.not_eq_true', Bool.and_eq_false_iff, Bool.or_eq_false_iff, Bool.not_eq_false', decide_eq_true_eq, decide_eq_false_iff_not, eqNil] at hg; omega) )
  apply hK; clear hK K
  refine awp_scope ?_
  refine awp_seq ?_
  -- region 1  columns.go:123
  refine awp_rseq [0, 1, 5, 16] (by rfl) fun K hK => ?_
  simp (decide := true) only [aOps_nil, ev, absV, absS, putD, Slots.put, Slots.get, Slots.keep, if_true, if_false, true_and, ↓ap_move, pop_move, ↓ap_len, pop_len, pLen_str Tryd.underlying9, ↓ap_binOp, pop_binOp, isNilC_int, cond_false, pBinX_int, pI_gtr]
  repeat (with_reducible refine And.intro ?_ ?_; · first | trivial | omega | (intro hg; simp only [Bool.and_eq_true, Bool.or_eq_true, Bool.not_eq_true', Bool.and_eq_false_iff, Bool.or_eq_false_iff, Bool.not_eq_false', decide_eq_true_eq, decide_eq_false_iff_not, eqNil] at hg; omega) )
  apply hK; clear hK K
  refine awp_cond (b := _) rfl (fun hb1 => ?_) (fun hb1 => ?_)
  · try simp only [decide_eq_true_eq] at hb1
    -- region 2  columns.go:124
    refine awp_rseq [4, 5] (by rfl) fun K hK => ?_
    simp (decide := true) only [ev, absV, absS, putD, Slots.put, Slots.get, if_true, if_false, true_and, ↓ap_build, ↓pop_buildL, bld34_0, evP, List.map_cons, List.map_nil, ↓ap_assign, pop_assign]
    repeat (with_reducible refine And.intro ?_ ?_; · first | trivial | omega | (intro hg; simp only [Bool.and_eq_true, Bool.or_eq_true, Bool.not_eq_true', Bool.and_eq_false_iff, Bool.or_eq_false_iff, Bool.not_eq_false', decide_eq_true_eq, decide_eq_false_iff_not, eqNil] at hg; omega) )
    refine aOps_store (by rfl) (by rfl) (by repeat (first | exact AHeap.set_same _ _ _ | assumption | refine (AHeap.set_ne _ _ (by first | assumption | exact Ne.symm (by assumption))).trans ?_)) sz34 (by rfl) (by rfl) (by first | exact Nat.le_refl _ | decide | (simp; done) | (simp; omega)) (Nat.zero_le _) (by rfl) ?_
    simp only [AHeap.set_set, AVal.cells]
    simp (decide := true) only [aOps_nil, ev, putD, Slots.get, Slots.keep, if_true, if_false, setAt, List.set_cons_zero, List.set_cons_succ, Nat.zero_add, Nat.reduceAdd]
    repeat (with_reducible refine And.intro ?_ ?_; · first | trivial | omega | (intro hg; simp only [Bool.and_eq_true, Bool.or_eq_true, Bool.not_eq_true', Bool.and_eq_false_iff, Bool.or_eq_false_iff, Bool.not_eq_false', decide_eq_true_eq, decide_eq_false_iff_not, eqNil] at hg; omega) )
    apply hK; clear hK K
    refine awp_ret ?_
    try simp only [thenA_ret, noGotoA_ret]
    refine retA_ret h (by repeat (first | exact Sub.refl _ | assumption | refine Sub.trans_set ?_ (by assumption))) (?_) ?_
    · simp (decide := true) only [resPre, resV_tmp, resV_cell, Slots.get, if_true, if_false, and_true, resV_tmp, resV_cell, pLoad_agg ag34 sz34, rd_set, cellsAt, List.getD_cons_zero, List.getD_cons_succ, Nat.zero_add, Nat.reduceAdd, lv_int, allLive, Bool.and_true, cellsAt, List.getD_cons_zero, List.getD_cons_succ, Nat.zero_add, Nat.reduceAdd, lv_int, allLive, Bool.and_true]
    
    simp (decide := true) only [Slots.get, if_true, if_false, resOfG_two, resV_tmp, resV_cell, pLoad_agg ag34 sz34, rd_set, cellsAt, List.getD_cons_zero, List.getD_cons_succ, Nat.zero_add, Nat.reduceAdd, lv_int, allLive, Bool.and_true, cellsAt, List.getD_cons_zero, List.getD_cons_succ, Nat.zero_add, Nat.reduceAdd, lv_int, allLive, Bool.and_true]
    have hb : 1048576 < text.length := by omega
    exact ⟨.nilSlice, by rw [readE_long hb]; rfl, by rw [readE_long hb]; exact ⟨[], rfl, .nil, by simp⟩, Sub.refl _⟩
  · try simp only [decide_eq_false_iff_not] at hb1
    refine awp_skip ?_
    change Awp _ _ _ _ _ _ _
    -- region 3  columns.go:126
    refine awp_rseq [0, 1, 5, 6] (by rfl) fun K hK => ?_
    refine aOps_alloc ze71 (cs := [.nilSlice, .int .i64 0, .int .i64 0, .bool false]) (by rfl) fun k3q0 hk3q0 => ?_
    have ne_3q0_0q1 : k3q0 ≠ k0q1 := by simp only [AHeap.set_none] at hk3q0; simp only [hk3q0, ne_eq, not_false_eq_true]
    try have hf_3q0 : h k3q0 = none := by first | assumption | (simp only [AHeap.set_none] at hk3q0; simp only [hk3q0])
    simp (decide := true) only [aOps_nil, putD, Slots.put, Slots.keep, if_true, if_false]
    repeat (with_reducible refine And.intro ?_ ?_; · first | trivial | omega | (intro hg; simp only [Bool.and_eq_true, Bool.or_eq_true, Bool.not_eq_true', Bool.and_eq_false_iff, Bool.or_eq_false_iff, Bool.not_eq_false', decide_eq_true_eq, decide_eq_false_iff_not, eqNil] at hg; omega) )
    apply hK; clear hK K
    -- region 4  columns.go:127
    refine awp_rseq [1, 5, 6, 7] (by rfl) fun K hK => ?_
    simp (decide := true) only [ev, putD, Slots.put, Slots.get, if_true, if_false, true_and, ↓ap_move, pop_move]
    repeat (with_reducible refine And.intro ?_ ?_; · first | trivial | omega | (intro hg; simp only [Bool.and_eq_true, Bool.or_eq_true, Bool.not_eq_true', Bool.and_eq_false_iff, Bool.or_eq_false_iff, Bool.not_eq_false', decide_eq_true_eq, decide_eq_false_iff_not, eqNil] at hg; omega) )
    refine aOps_callV (V := .str (trimNL text)) (by rfl) (by rfl) (c_trimNL w₀ _ text hl) ?_
    refine aOps_call (by rfl) (by rfl) (c_split w₀ hm _ (trimNL text) (by have := trimNL_len text; omega)) fun x4q2 h4q2 hx4q2 => ?_
    obtain ⟨ks, hks, rfl, rfl⟩ := hx4q2
    simp (decide := true) only [aOps_nil, ev, putD, Slots.put, Slots.get, Slots.keep, if_true, if_false, true_and, ↓ap_assign, pop_assign]
    repeat (with_reducible refine And.intro ?_ ?_; · first | trivial | omega | (intro hg; simp only [Bool.and_eq_true, Bool.or_eq_true, Bool.not_eq_true', Bool.and_eq_false_iff, Bool.or_eq_false_iff, Bool.not_eq_false', decide_eq_true_eq, decide_eq_false_iff_not, eqNil] at hg; omega) )
    apply hK; clear hK K
    refine awp_seq ?_
    refine awp_label ?_
    change Awp _ _ _ _ _ _ _
    obtain ⟨nks, _, hks2⟩ := (AHeap.set_none _ _ _ _).mp hks
    obtain ⟨nkr, _, hks3⟩ := (AHeap.set_none _ _ _ _).mp hks2
    have nkx : k3q0 ≠ k0q1 := ((AHeap.set_none _ _ _ _).mp hk3q0).1
    have hcomm : ((h.set k0q1 ⟨[.int .i64 0, .int .i64 0, .int .i64 0], 0⟩).set k3q0 ⟨[.nilSlice, .int .i64 0, .int .i64 0, .bool false], 0⟩).set ks ⟨(splitNL (trimNL text)).map AVal.str, 0⟩ = rdH k3q0 ((h.set k0q1 ⟨[.int .i64 0, .int .i64 0, .int .i64 0], 0⟩).set ks ⟨(splitNL (trimNL text)).map AVal.str, 0⟩) none none .start := AHeap.set_comm _ _ _ nks
    rw [hcomm]
    exact readLoop w₀ hm h _ (by repeat (first | exact Sub.refl _ | assumption | refine Sub.set_both ?_ _ _ | refine Sub.trans_set ?_ (by repeat (first | assumption | refine (AHeap.set_ne _ _ (by first | assumption | exact Ne.symm (by assumption))).trans ?_)))) k0q1 k3q0 ks text dbg (splitNL (trimNL text)) rfl (by omega) ((AHeap.set_ne _ _ nkr.symm).trans (AHeap.set_same _ _ _)) hk0q1 (AHeap.set_same _ _ _) ⟨Sub.refl _, (fun _ _ e => by cases e), (AHeap.set_ne _ _ nks.symm).trans hk3q0, trivial, trivial, .inl ⟨rfl, rfl, rfl⟩⟩
end Go.Proofs.YtikpnhdjjabdmaaDoor

/-
  Contracts: space of the package columns; Printable of the package chars.
  Conditions: none.
-/
namespace Go.Proofs.YtikpnhdjjabdmaaDoor
open Go.AM
open Go.Proofs
open Go.Col
set_option maxRecDepth 100000

theorem c_space1 (w₀ : World) (h : AHeap) (k3 k5 k7 : Nat) (s : Str) (q : Bool) (i : Nat) (f : Nat) (h3 : h k3 = some ⟨[.str s], 0⟩) (h5 : h k5 = some ⟨[.bool q], 0⟩) (h7 : h k7 = some ⟨[.int .i64 f], 0⟩) (n53 : k5 ≠ k3) (n73 : k7 ≠ k3) (n75 : k7 ≠ k5) (hi : i < s.length) :
    ACall Tryd.prog w₀ 67 [.int .i64 i, .ptr (.own k3) 0, .ptr (.own k5) 0, .ptr (.own k7) 0] h
      (fun v h' => v = .tuple [] ∧ h' = (h.set k5 ⟨[.bool (if s.getD i 0 = 34 then !q else q)], 0⟩).set k7 ⟨[.int .i64 (if s.getD i 0 = 32 ∧ (if s.getD i 0 = 34 then !q else q) = false ∧ 0 < i then (i : Nat) else f : Nat)], 0⟩) := by
  have r3 := fun o => rd_own w₀ h3 o
  have r5 := fun o => rd_own w₀ h5 o
  have q3 : (h.set k5 ⟨[.bool (!q)], 0⟩) k3 = some ⟨[.str s], 0⟩ := (AHeap.set_ne _ _ n53.symm).trans h3
  have r3' := fun o => rd_own w₀ q3 o
  have hself5 := set_same_self h5
  have h7' := (AHeap.set_ne h ⟨[.bool (!q)], 0⟩ n75).trans h7
  have hself7 := set_same_self h7
  have hself7' := set_same_self h7'
  refine acall_intro (n := 24) (rs := []) Tryd.func67 rfl rfl rfl rfl (Nat.le_of_ble_eq_true rfl) ?_
  simp only [initSlots]
  refine awp_seq ?_
  -- region 0  columns.go:196
  refine awp_rseq [0, 1, 2, 3, 8] (by rfl) fun K hK => ?_
  simp (decide := true) only [aOps_nil, ev, absV, absS, putD, Slots.put, Slots.get, Slots.keep, if_true, if_false, true_and, ↓ap_loadL, apL_mk, pLoad_one ag9, ↓ap_move, pop_move, ↓ap_index, pop_index, pIndex_str Tryd.underlying9, ↓ap_binOp, pop_binOp, isNilC_int, cond_false, pBinX_int, pI_eql, List.getD_cons_zero, Nat.zero_add, Nat.reduceAdd, lv_str, r3, Int.toNat_natCast]
  repeat (with_reducible refine And.intro ?_ ?_; · first | trivial | omega | (intro hg; simp only [Bool.and_eq_true, Bool.or_eq_true, Bool.not_eq_true', Bool.and_eq_false_iff, Bool.or_eq_false_iff, Bool.not_eq_false', decide_eq_true_eq, decide_eq_false_iff_not, eqNil] at hg; omega) )
  apply hK; clear hK K
  refine awp_cond (b := _) rfl (fun hb1 => ?_) (fun hb1 => ?_)
  · try simp only [decide_eq_true_eq] at hb1
    have e34 : s.getD i 0 = 34 := (u8_eq _ 34).mp hb1
    -- region 1  columns.go:197
    refine awp_r [0, 1, 2, 3] (by rfl) ?_
    simp (decide := true) only [ev, putD, Slots.put, Slots.get, if_true, if_false, true_and, ↓ap_loadL, apL_mk, pLoad_one ag4, ↓ap_unOp, pop_unOp, pU_not, List.getD_cons_zero, lv_bool, r5]
    try simp (disch := omega) only [wrap_i64, wrap_u8]
    repeat (with_reducible refine And.intro ?_ ?_; · first | trivial | omega | (intro hg; simp only [Bool.and_eq_true, Bool.or_eq_true, Bool.not_eq_true', Bool.and_eq_false_iff, Bool.or_eq_false_iff, Bool.not_eq_false', decide_eq_true_eq, decide_eq_false_iff_not, eqNil] at hg; omega) )
    refine aOps_store (v := .bool (!q)) (by rfl) (by rfl) h5 sz4 (by rfl) (by rfl) (by simp) (Nat.zero_le _) (by rfl) ?_
    simp only [setAt, AVal.cells, List.set_cons_zero]
    simp (decide := true) only [aOps_nil, putD, Slots.keep, if_true, if_false]
    repeat (with_reducible refine And.intro ?_ ?_; · first | trivial | omega | (intro hg; simp only [Bool.and_eq_true, Bool.or_eq_true, Bool.not_eq_true', Bool.and_eq_false_iff, Bool.or_eq_false_iff, Bool.not_eq_false', decide_eq_true_eq, decide_eq_false_iff_not, eqNil] at hg; omega) )
    change Awp _ _ _ _ _ _ _
    -- region 2  columns.go:199
    refine awp_rseq [0, 3, 22] (by rfl) fun K hK => ?_
    simp (decide := true) only [aOps_nil, ev, absV, absS, putD, Slots.put, Slots.get, Slots.keep, if_true, if_false, true_and, ↓ap_loadL, apL_mk, pLoad_one ag9, ↓ap_move, pop_move, ↓ap_index, pop_index, pIndex_str Tryd.underlying9, ↓ap_binOp, pop_binOp, isNilC_int, cond_false, pBinX_int, pI_eql, ↓ag_loadL, agQL_some, agL_mk, agP, agQ_some, nthDst, gKnown_bool, guardB_bool_true, implies_true, Bool.not_not, pLoad_one ag4, ↓ag_unOp, pop_unOp, pU_not, cv_un, cp_un, ↓ap_pick, pop_pick, pPick_bool, pickV_cond_l, pickV_and, ↓ag_move, ↓ag_binOp, cv_binl, cp_binl, pI_gtr, rd_any, List.getD_cons_zero, lv_bool, lv_str, r3', Int.toNat_natCast]
    try simp (disch := omega) only [wrap_i64, wrap_u8]
    repeat (with_reducible refine And.intro ?_ ?_; · first | trivial | omega | (intro hg; simp only [Bool.and_eq_true, Bool.or_eq_true, Bool.not_eq_true', Bool.and_eq_false_iff, Bool.or_eq_false_iff, Bool.not_eq_false', decide_eq_true_eq, decide_eq_false_iff_not, eqNil] at hg; omega) )
    apply hK; clear hK K
    refine awp_cond (b := _) rfl (fun hb2 => ?_) (fun hb2 => ?_)
    · try simp only [decide_eq_true_eq, Bool.and_eq_true] at hb2
      -- region 3  columns.go:200
      refine awp_r [] (by rfl) ?_
      simp (decide := true) only [ev, putD, Slots.put, Slots.get, if_true, if_false, true_and, ↓ap_move, pop_move]
      repeat (with_reducible refine And.intro ?_ ?_; · first | trivial | omega | (intro hg; simp only [Bool.and_eq_true, Bool.or_eq_true, Bool.not_eq_true', Bool.and_eq_false_iff, Bool.or_eq_false_iff, Bool.not_eq_false', decide_eq_true_eq, decide_eq_false_iff_not, eqNil] at hg; omega) )
      skip
      first
      | refine aOps_store (v := .int .i64 i) (by rfl) (by rfl) h7 sz3 (by rfl) (by rfl) (by simp) (Nat.zero_le _) (by rfl) ?_
      | refine aOps_store (v := .int .i64 i) (by rfl) (by rfl) h7' sz3 (by rfl) (by rfl) (by simp) (Nat.zero_le _) (by rfl) ?_
      simp only [setAt, AVal.cells, List.set_cons_zero]
      simp (decide := true) only [aOps_nil, putD, Slots.keep, if_false]
      repeat (with_reducible refine And.intro ?_ ?_; · first | trivial | omega | (intro hg; simp only [Bool.and_eq_true, Bool.or_eq_true, Bool.not_eq_true', Bool.and_eq_false_iff, Bool.or_eq_false_iff, Bool.not_eq_false', decide_eq_true_eq, decide_eq_false_iff_not, eqNil] at hg; omega) )
      try simp only [thenA_ret, inBlockA_ret]
      refine retA_end _ (Sub.refl _) (resPre_nil) ?_
      simp (decide := true) only [true_and, resOf_nil]
      rw [if_pos e34, if_pos ⟨(u8_eq _ 32).mp hb2.1.1, by rw [hb2.1.2]; rfl, by omega⟩]
    · try simp only [decide_eq_false_iff_not, Bool.and_eq_false_iff] at hb2
      refine awp_skip ?_
      try simp only [thenA_ret, inBlockA_ret]
      refine retA_end _ (Sub.refl _) (resPre_nil) ?_
      simp (decide := true) only [true_and, resOf_nil]
      rw [if_pos e34, if_neg, hself7']
      rintro ⟨a, b, c⟩
      rcases hb2 with (e | e) | e
      · exact e ((u8_eq _ 32).mpr a)
      · rw [e] at b; cases b
      · omega
  · try simp only [decide_eq_false_iff_not] at hb1
    have e34 : ¬ s.getD i 0 = 34 := fun e => hb1 ((u8_eq _ 34).mpr e)
    refine awp_skip ?_
    change Awp _ _ _ _ _ _ _
    -- region 2  columns.go:199
    refine awp_rseq [0, 3, 22] (by rfl) fun K hK => ?_
    simp (decide := true) only [aOps_nil, ev, absV, absS, putD, Slots.put, Slots.get, Slots.keep, if_true, if_false, true_and, ↓ap_loadL, apL_mk, pLoad_one ag9, ↓ap_move, pop_move, ↓ap_index, pop_index, pIndex_str Tryd.underlying9, ↓ap_binOp, pop_binOp, isNilC_int, cond_false, pBinX_int, pI_eql, ↓ag_loadL, agQL_some, agL_mk, agP, agQ_some, nthDst, gKnown_bool, guardB_bool_true, implies_true, pLoad_one ag4, ↓ag_unOp, pop_unOp, pU_not, cv_un, cp_un, ↓ap_pick, pop_pick, pPick_bool, pickV_cond_l, pickV_and, ↓ag_move, ↓ag_binOp, cv_binl, cp_binl, pI_gtr, List.getD_cons_zero, lv_bool, lv_str, r3, r5, Int.toNat_natCast]
    try simp (disch := omega) only [wrap_i64, wrap_u8]
    repeat (with_reducible refine And.intro ?_ ?_; · first | trivial | omega | (intro hg; simp only [Bool.and_eq_true, Bool.or_eq_true, Bool.not_eq_true', Bool.and_eq_false_iff, Bool.or_eq_false_iff, Bool.not_eq_false', decide_eq_true_eq, decide_eq_false_iff_not, eqNil] at hg; omega) )
    apply hK; clear hK K
    refine awp_cond (b := _) rfl (fun hb3 => ?_) (fun hb3 => ?_)
    · try simp only [decide_eq_true_eq, Bool.not_eq_true', Bool.and_eq_true] at hb3
      -- region 3  columns.go:200
      refine awp_r [] (by rfl) ?_
      simp (decide := true) only [ev, putD, Slots.put, Slots.get, if_true, if_false, true_and, ↓ap_move, pop_move]
      repeat (with_reducible refine And.intro ?_ ?_; · first | trivial | omega | (intro hg; simp only [Bool.and_eq_true, Bool.or_eq_true, Bool.not_eq_true', Bool.and_eq_false_iff, Bool.or_eq_false_iff, Bool.not_eq_false', decide_eq_true_eq, decide_eq_false_iff_not, eqNil] at hg; omega) )
      skip
      first
      | refine aOps_store (v := .int .i64 i) (by rfl) (by rfl) h7 sz3 (by rfl) (by rfl) (by simp) (Nat.zero_le _) (by rfl) ?_
      | refine aOps_store (v := .int .i64 i) (by rfl) (by rfl) h7' sz3 (by rfl) (by rfl) (by simp) (Nat.zero_le _) (by rfl) ?_
      simp only [setAt, AVal.cells, List.set_cons_zero]
      simp (decide := true) only [aOps_nil, putD, Slots.keep, if_false]
      repeat (with_reducible refine And.intro ?_ ?_; · first | trivial | omega | (intro hg; simp only [Bool.and_eq_true, Bool.or_eq_true, Bool.not_eq_true', Bool.and_eq_false_iff, Bool.or_eq_false_iff, Bool.not_eq_false', decide_eq_true_eq, decide_eq_false_iff_not, eqNil] at hg; omega) )
      try simp only [thenA_ret, inBlockA_ret]
      refine retA_end _ (Sub.refl _) (resPre_nil) ?_
      simp (decide := true) only [true_and, resOf_nil]
      rw [if_neg e34, if_pos ⟨(u8_eq _ 32).mp hb3.1.1, hb3.1.2, by omega⟩, hself5]
    · try simp only [decide_eq_false_iff_not, Bool.not_eq_false', Bool.and_eq_false_iff] at hb3
      refine awp_skip ?_
      try simp only [thenA_ret, inBlockA_ret]
      refine retA_end _ (Sub.refl _) (resPre_nil) ?_
      simp (decide := true) only [true_and, resOf_nil]
      rw [if_neg e34, if_neg, hself5, hself7]
      rintro ⟨a, b, c⟩
      rcases hb3 with (e | e) | e
      · exact e ((u8_eq _ 32).mpr a)
      · rw [e] at b; cases b
      · omega

theorem spaceGo_step {s : Str} {i n : Nat} {q : Bool} {f : Nat} (hi : i < s.length) (hn : i ≤ n) : spaceGo (s.drop i) i n q f = spaceGo (s.drop (i + 1)) (i + 1) n (if s.getD i 0 = 34 then !q else q) (if s.getD i 0 = 32 ∧ (if s.getD i 0 = 34 then !q else q) = false ∧ 0 < i then i else f) := by
  rw [List.drop_eq_getElem_cons hi, spaceGo, if_neg (by omega)]
  simp only [List.getD, List.getElem?_eq_getElem hi, Option.getD_some]
theorem spaceGo_stop {s : Str} {i n : Nat} {q : Bool} {f : Nat} (h : n < i ∨ s.length ≤ i) : spaceGo (s.drop i) i n q f = f := by
  rcases h with h | h
  · cases s.drop i with
    | nil => rfl
    | cons b l => rw [spaceGo, if_pos h]
  · rw [List.drop_of_length_le h]
    rfl
structure SpG where
  i : Nat
  q : Bool
  f : Nat
theorem c_space (w₀ : World) (h : AHeap) (s : Str) (n : Nat) (q : Bool) (hl : s.length ≤ 4611686018427387904) (hn : n ≤ 1099511627776) : ACall Tryd.prog w₀ 48 [.str s, .int .i64 n, .bool q] h (fun v h' => v = .int .i64 (spaceE s n q) ∧ h' = h) := by
  refine acall_intro (n := 26) (rs := [.tmp 6]) Tryd.func48 rfl rfl rfl rfl (Nat.le_of_ble_eq_true rfl) ?_
  simp only [initSlots]
  -- region 0  columns.go:193
  refine awp_rseq [1, 3, 5] (by rfl) fun K hK => ?_
  refine aOps_box (by rfl) (by rfl) (by rfl) fun k0q0 hk0q0 => ?_
  try have hf_0q0 : h k0q0 = none := by first | assumption | (simp only [AHeap.set_none] at hk0q0; simp only [hk0q0])
  skip
  refine aOps_box (by rfl) (by rfl) (by rfl) fun k0q1 hk0q1 => ?_
  have ne_0q1_0q0 : k0q1 ≠ k0q0 := by simp only [AHeap.set_none] at hk0q1; simp only [hk0q1, ne_eq, not_false_eq_true]
  try have hf_0q1 : h k0q1 = none := by first | assumption | (simp only [AHeap.set_none] at hk0q1; simp only [hk0q1])
  skip
  simp (decide := true) only [aOps_nil, ev, absV, absS, putD, Slots.put, Slots.get, Slots.keep, if_true, if_false, true_and, ↓ap_assign, pop_assign, AVal.cells, Nat.zero_add, Nat.reduceAdd]
  repeat (with_reducible refine And.intro ?_ ?_; · first | trivial | omega | (intro hg; simp only [Bool.and_eq_true, Bool.or_eq_true, Bool.not_eq_true', Bool.and_eq_false_iff, Bool.or_eq_false_iff, Bool.not_eq_false', decide_eq_true_eq, decide_eq_false_iff_not, eqNil] at hg; omega) )
  apply hK; clear hK K
  -- region 1  columns.go:194
  refine awp_rseq [1, 3, 5, 7] (by rfl) fun K hK => ?_
  refine aOps_alloc ze3 (cs := [.int .i64 0]) (by rfl) fun k1q0 hk1q0 => ?_
  have ne_1q0_0q0 : k1q0 ≠ k0q0 := by simp only [AHeap.set_none] at hk1q0; simp only [hk1q0, ne_eq, not_false_eq_true]
  have ne_1q0_0q1 : k1q0 ≠ k0q1 := by simp only [AHeap.set_none] at hk1q0; simp only [hk1q0, ne_eq, not_false_eq_true]
  try have hf_1q0 : h k1q0 = none := by first | assumption | (simp only [AHeap.set_none] at hk1q0; simp only [hk1q0])
  refine aOps_store (by rfl) (by rfl) (by repeat (first | exact AHeap.set_same _ _ _ | assumption | refine (AHeap.set_ne _ _ (by first | assumption | exact Ne.symm (by assumption))).trans ?_)) sz3 (by rfl) (by rfl) (by first | exact Nat.le_refl _ | decide | (simp; done) | (simp; omega)) (Nat.zero_le _) (by rfl) ?_
  simp only [AHeap.set_set, AVal.cells]
  simp (decide := true) only [aOps_nil, ev, absV, absS, putD, Slots.put, Slots.keep, if_true, if_false, setAt, List.set_cons_zero]
  repeat (with_reducible refine And.intro ?_ ?_; · first | trivial | omega | (intro hg; simp only [Bool.and_eq_true, Bool.or_eq_true, Bool.not_eq_true', Bool.and_eq_false_iff, Bool.or_eq_false_iff, Bool.not_eq_false', decide_eq_true_eq, decide_eq_false_iff_not, eqNil] at hg; omega) )
  apply hK; clear hK K
  -- region 2  columns.go:195
  refine awp_rseq [1, 3, 7, 8] (by rfl) fun K hK => ?_
  simp (decide := true) only [aOps_nil, ev, putD, Slots.put, Slots.get, Slots.keep, if_true, if_false, true_and, ↓ap_makeFunc, pop_makeFunc, evs, List.map_cons, List.map_nil, ↓ap_assign, pop_assign]
  repeat (with_reducible refine And.intro ?_ ?_; · first | trivial | omega | (intro hg; simp only [Bool.and_eq_true, Bool.or_eq_true, Bool.not_eq_true', Bool.and_eq_false_iff, Bool.or_eq_false_iff, Bool.not_eq_false', decide_eq_true_eq, decide_eq_false_iff_not, eqNil] at hg; omega) )
  apply hK; clear hK K
  refine awp_seq ?_
  -- region 3  columns.go:203
  refine awp_rseq [1, 3, 7, 8, 9] (by rfl) fun K hK => ?_
  simp (decide := true) only [aOps_nil, ev, absV, absS, putD, Slots.put, Slots.keep, if_true, if_false, true_and, ↓ap_assign, pop_assign]
  repeat (with_reducible refine And.intro ?_ ?_; · first | trivial | omega | (intro hg; simp only [Bool.and_eq_true, Bool.or_eq_true, Bool.not_eq_true', Bool.and_eq_false_iff, Bool.or_eq_false_iff, Bool.not_eq_false', decide_eq_true_eq, decide_eq_false_iff_not, eqNil] at hg; omega) )
  apply hK; clear hK K
  refine awp_block ?_
  refine awp_loopG [1, 3, 7, 8, 9] (fun g : SpG => [(1, .int .i64 n), (3, .ptr (.own k0q0) 0), (7, .ptr (.own k1q0) 0), (8, .func 67 [.ptr (.own k0q0) 0, .ptr (.own k0q1) 0, .ptr (.own k1q0) 0]), (9, .int .i64 g.i)]) (fun g : SpG => ((h.set k0q0 ⟨[.str s], 0⟩).set k0q1 ⟨[.bool g.q], 0⟩).set k1q0 ⟨[.int .i64 g.f], 0⟩) (fun g : SpG => g.i ≤ s.length ∧ g.i ≤ n + 1 ∧ spaceGo (s.drop g.i) g.i n g.q g.f = spaceE s n q) (fun g : SpG => s.length - g.i) ⟨0, q, 0⟩ (by rfl) (Sub.refl _) ⟨Nat.zero_le _, Nat.zero_le _, rfl⟩ ?_
  rintro ⟨i, q', f⟩ ⟨hi, hin, hg⟩
  simp only at hi hin hg ⊢
  refine awp_seq ?_
  -- region 4  columns.go:203
  refine awp_rseq [1, 3, 7, 8, 9, 19] (by rfl) fun K hK => ?_
  simp (decide := true) only [aOps_nil, ev, absV, absS, putD, Slots.put, Slots.get, Slots.keep, if_true, if_false, true_and, ↓ap_move, pop_move, ↓ap_binOp, pop_binOp, isNilC_tmp, cond_false, pBinX_int, pI_leq, ↓ag_move, agP, agQ_some, nthDst, gKnown_bool, guardB_bool_true, implies_true, ↓ag_loadL, agQL_some, agL_mk, pLoad_one ag9, ↓ag_len, pop_len, pLen_str Tryd.underlying9, cv_len, cp_len, ↓ag_binOp, cv_binl, cv_binr, cp_binl, cp_binr, pI_lss, ↓ap_pick, pop_pick, pPick_bool, pickV_cond_l, pickV_and, rd_ne', ne_eq, not_false_eq_true, ne_0q1_0q0.symm, ne_1q0_0q0.symm, rd_any, List.getD_cons_zero, lv_str]
  repeat (with_reducible refine And.intro ?_ ?_; · first | trivial | omega | (intro hg; simp only [Bool.and_eq_true, Bool.or_eq_true, Bool.not_eq_true', Bool.and_eq_false_iff, Bool.or_eq_false_iff, Bool.not_eq_false', decide_eq_true_eq, decide_eq_false_iff_not, eqNil] at hg; omega) )
  apply hK; clear hK K
  refine awp_cond (b := _) rfl (fun hb1 => ?_) (fun hb1 => ?_)
  · try simp only [decide_eq_true_eq, Bool.and_eq_true] at hb1
    have hi' : i < s.length := by omega
    refine awp_skip ?_
    change Awp _ _ _ _ _ _ _
    refine awp_seq ?_
    refine awp_block ?_
    -- region 6  columns.go:204
    refine awp_r [1, 3, 7, 8, 9] (by rfl) ?_
    simp (decide := true) only [ev, putD, Slots.put, Slots.get, if_true, if_false, true_and, ↓ap_move, pop_move]
    repeat (with_reducible refine And.intro ?_ ?_; · first | trivial | omega | (intro hg; simp only [Bool.and_eq_true, Bool.or_eq_true, Bool.not_eq_true', Bool.and_eq_false_iff, Bool.or_eq_false_iff, Bool.not_eq_false', decide_eq_true_eq, decide_eq_false_iff_not, eqNil] at hg; omega) )
    refine aOps_call (by rfl) (by rfl) (c_space1 w₀ _ k0q0 k0q1 k1q0 s q' i f (by repeat (first | exact AHeap.set_same _ _ _ | assumption | refine (AHeap.set_ne _ _ (by first | assumption | exact Ne.symm (by assumption))).trans ?_)) (by repeat (first | exact AHeap.set_same _ _ _ | assumption | refine (AHeap.set_ne _ _ (by first | assumption | exact Ne.symm (by assumption))).trans ?_)) (by repeat (first | exact AHeap.set_same _ _ _ | assumption | refine (AHeap.set_ne _ _ (by first | assumption | exact Ne.symm (by assumption))).trans ?_)) (by assumption) (by assumption) (by assumption) hi') fun x6q2 h6q2 hx6q2 => ?_
    obtain ⟨rfl, rfl⟩ := hx6q2
    simp (decide := true) only [aOps_nil, putD, Slots.put, Slots.keep, if_true, if_false]
    repeat (with_reducible refine And.intro ?_ ?_; · first | trivial | omega | (intro hg; simp only [Bool.and_eq_true, Bool.or_eq_true, Bool.not_eq_true', Bool.and_eq_false_iff, Bool.or_eq_false_iff, Bool.not_eq_false', decide_eq_true_eq, decide_eq_false_iff_not, eqNil] at hg; omega) )
    change Awp _ _ _ _ _ _ _
    -- region 5  columns.go:203
    refine awp_r [1, 3, 7, 8, 9] (by rfl) ?_
    simp (decide := true) only [aOps_nil, ev, absV, absS, putD, Slots.put, Slots.get, Slots.keep, if_true, if_false, true_and, ↓ap_move, pop_move, ↓ap_binOp, pop_binOp, isNilC_int, cond_false, pBinX_int, pI_add, ↓ap_assign, pop_assign]
    try simp (disch := omega) only [wrap_i64]
    repeat (with_reducible refine And.intro ?_ ?_; · first | trivial | omega | (intro hg; simp only [Bool.and_eq_true, Bool.or_eq_true, Bool.not_eq_true', Bool.and_eq_false_iff, Bool.or_eq_false_iff, Bool.not_eq_false', decide_eq_true_eq, decide_eq_false_iff_not, eqNil] at hg; omega) )
    try simp only [thenA_normal]
    refine ⟨⟨i + 1, _, _⟩, rfl, ?_, ⟨hi', by simp only; omega, by simp only; rw [← hg, spaceGo_step hi' (by omega)]⟩, by simp only; omega⟩
    rw [AHeap.set_comm _ _ _ ne_1q0_0q1.symm, AHeap.set_set, AHeap.set_set]
    exact Sub.refl _
  · try simp only [decide_eq_false_iff_not, Bool.and_eq_false_iff] at hb1
    refine awp_exit ?_
    change Awp _ _ _ _ _ _ _
    -- region 7  columns.go:206
    refine awp_rseq [6] (by rfl) fun K hK => ?_
    simp (decide := true) only [aOps_nil, ev, putD, Slots.put, Slots.get, Slots.keep, if_true, if_false, true_and, ↓ap_loadL, apL_mk, pLoad_one ag3, ↓ap_assign, pop_assign, rd_any, List.getD_cons_zero, lv_int]
    repeat (with_reducible refine And.intro ?_ ?_; · first | trivial | omega | (intro hg; simp only [Bool.and_eq_true, Bool.or_eq_true, Bool.not_eq_true', Bool.and_eq_false_iff, Bool.or_eq_false_iff, Bool.not_eq_false', decide_eq_true_eq, decide_eq_false_iff_not, eqNil] at hg; omega) )
    apply hK; clear hK K
    refine awp_ret ?_
    try simp only [thenA_ret, inBlockA_ret]
    refine retA_ret h (by repeat (first | exact Sub.refl _ | assumption | refine Sub.trans_set ?_ (by assumption))) (resPre_tmp (resPre_nil)) ?_
    simp (decide := true) only [Slots.get, if_true, and_true, resOf_one]
    rw [← hg, spaceGo_stop (by omega)]

/-! ### Printable -/
theorem c_prt1 (w₀ : World) (h : AHeap) (b : UInt8) : ACall Tryd.prog w₀ 46 [.int .u8 b.toNat] h (fun v h' => v = .bool (okB b) ∧ h' = h) := by
  refine acall_intro (n := 9) (rs := [.tmp 2]) Tryd.func46 rfl rfl rfl rfl (Nat.le_of_ble_eq_true rfl) ?_
  simp only [initSlots]
  -- region 0  chars.go:43
  refine awp_rseq [0] (by rfl) fun K hK => ?_
  simp (decide := true) only [aOps_nil, ev, absV, absS, putD, Slots.put, Slots.keep, if_true, if_false, true_and, ↓ap_assign, pop_assign]
  repeat (with_reducible refine And.intro ?_ ?_; · first | trivial | omega | (intro hg; simp only [Bool.and_eq_true, Bool.or_eq_true, Bool.not_eq_true', Bool.and_eq_false_iff, Bool.or_eq_false_iff, Bool.not_eq_false', decide_eq_true_eq, decide_eq_false_iff_not, eqNil] at hg; omega) )
  apply hK; clear hK K
  -- region 1  chars.go:43
  refine awp_rseq [2] (by rfl) fun K hK => ?_
  simp (decide := true) only [aOps_nil, ev, absV, absS, putD, Slots.put, Slots.get, Slots.keep, if_true, if_false, true_and, ↓ap_move, pop_move, ↓ap_binOp, pop_binOp, isNilC_int, cond_false, pBinX_int, pI_geq, ↓ag_move, agP, agQ_some, nthDst, gKnown_bool, guardB_bool_true, implies_true, ↓ag_binOp, cv_binl, cp_binl, pI_leq, ↓ap_pick, pop_pick, pPick_bool, pickV_cond_l, pickV_and, ↓ap_assign, pop_assign]
  repeat (with_reducible refine And.intro ?_ ?_; · first | trivial | omega | (intro hg; simp only [Bool.and_eq_true, Bool.or_eq_true, Bool.not_eq_true', Bool.and_eq_false_iff, Bool.or_eq_false_iff, Bool.not_eq_false', decide_eq_true_eq, decide_eq_false_iff_not, eqNil] at hg; omega) )
  apply hK; clear hK K
  refine awp_ret ?_
  try simp only [thenA_ret, inBlockA_ret]
  refine retA_ret _ (Sub.refl _) (resPre_tmp (resPre_nil)) ?_
  simp (decide := true) only [Slots.get, if_true, and_true, resOf_one]
  unfold okB
  congr 1
  rw [Bool.eq_iff_iff]
  simp only [Bool.and_eq_true, decide_eq_true_eq]
  omega
theorem c_all (w₀ : World) (h : AHeap) (s : Str) (hl : s.length ≤ 4611686018427387904) : ACall Tryd.prog w₀ 45 [.str s, .func 46 []] h (fun v h' => v = .bool (s.all okB) ∧ h' = h) := by
  refine acall_intro (n := 18) (rs := [.tmp 4]) Tryd.func45 rfl rfl rfl rfl (Nat.le_of_ble_eq_true rfl) ?_
  simp only [initSlots]
  -- region 0  chars.go:21
  refine awp_rseq [0, 1] (by rfl) fun K hK => ?_
  simp (decide := true) only [aOps_nil, ev, absV, absS, putD, Slots.put, Slots.keep, if_true, if_false, true_and, ↓ap_assign, pop_assign]
  repeat (with_reducible refine And.intro ?_ ?_; · first | trivial | omega | (intro hg; simp only [Bool.and_eq_true, Bool.or_eq_true, Bool.not_eq_true', Bool.and_eq_false_iff, Bool.or_eq_false_iff, Bool.not_eq_false', decide_eq_true_eq, decide_eq_false_iff_not, eqNil] at hg; omega) )
  apply hK; clear hK K
  refine awp_seq ?_
  -- region 1  chars.go:22
  refine awp_rseq [0, 1, 7, 8] (by rfl) fun K hK => ?_
  simp (decide := true) only [aOps_nil, ev, absV, absS, putD, Slots.put, Slots.get, Slots.keep, if_true, if_false, true_and, ↓ap_move, pop_move, ↓ap_len, pop_len, pLen_str Tryd.underlying9]
  repeat (with_reducible refine And.intro ?_ ?_; · first | trivial | omega | (intro hg; simp only [Bool.and_eq_true, Bool.or_eq_true, Bool.not_eq_true', Bool.and_eq_false_iff, Bool.or_eq_false_iff, Bool.not_eq_false', decide_eq_true_eq, decide_eq_false_iff_not, eqNil] at hg; omega) )
  apply hK; clear hK K
  refine awp_block ?_
  refine awp_loopG [0, 1, 7, 8] (fun i : Nat => [(0, .str s), (1, .func 46 []), (7, .int .i64 s.length), (8, .int .i64 i)]) (fun i : Nat => h) (fun i : Nat => i ≤ s.length ∧ (s.drop i).all okB = s.all okB) (fun i : Nat => s.length - i) 0 rfl (Sub.refl _) ⟨Nat.zero_le _, rfl⟩ ?_
  rintro i ⟨hi, hg⟩
  -- region 2  chars.go:22
  refine awp_rseq [0, 1, 7, 8, 9] (by rfl) fun K hK => ?_
  simp (decide := true) only [aOps_nil, ev, putD, Slots.put, Slots.get, Slots.keep, if_true, if_false, true_and, ↓ap_binOp, pop_binOp, isNilC_tmp, cond_false, pBinX_int, pI_lss]
  repeat (with_reducible refine And.intro ?_ ?_; · first | trivial | omega | (intro hg; simp only [Bool.and_eq_true, Bool.or_eq_true, Bool.not_eq_true', Bool.and_eq_false_iff, Bool.or_eq_false_iff, Bool.not_eq_false', decide_eq_true_eq, decide_eq_false_iff_not, eqNil] at hg; omega) )
  apply hK; clear hK K
  refine awp_seq (awp_cond (b := _) rfl (fun hb1 => ?_) (fun hb1 => ?_))
  · try simp only [decide_eq_true_eq] at hb1
    have hi' : i < s.length := by omega
    have hd : s.drop i = s.getD i 0 :: s.drop (i + 1) := by rw [List.drop_eq_getElem_cons hi']; simp [List.getD, hi']
    rw [hd, List.all_cons] at hg
    refine awp_skip ?_
    change Awp _ _ _ _ _ _ _
    refine awp_seq ?_
    refine awp_block ?_
    -- region 3  chars.go:22
    refine awp_rseq [0, 1, 5, 7, 8] (by rfl) fun K hK => ?_
    simp (decide := true) only [aOps_nil, ev, putD, Slots.put, Slots.get, Slots.keep, if_true, if_false, true_and, ↓ap_move, pop_move, ↓ap_assign, pop_assign]
    repeat (with_reducible refine And.intro ?_ ?_; · first | trivial | omega | (intro hg; simp only [Bool.and_eq_true, Bool.or_eq_true, Bool.not_eq_true', Bool.and_eq_false_iff, Bool.or_eq_false_iff, Bool.not_eq_false', decide_eq_true_eq, decide_eq_false_iff_not, eqNil] at hg; omega) )
    apply hK; clear hK K
    -- region 4  chars.go:23
    refine awp_rseq [0, 1, 7, 8, 16] (by rfl) fun K hK => ?_
    simp (decide := true) only [ev, putD, Slots.put, Slots.get, if_true, if_false, true_and, ↓ap_move, pop_move, ↓ap_index, pop_index, pIndex_str Tryd.underlying9, Int.toNat_natCast]
    repeat (with_reducible refine And.intro ?_ ?_; · first | trivial | omega | (intro hg; simp only [Bool.and_eq_true, Bool.or_eq_true, Bool.not_eq_true', Bool.and_eq_false_iff, Bool.or_eq_false_iff, Bool.not_eq_false', decide_eq_true_eq, decide_eq_false_iff_not, eqNil] at hg; omega) )
    refine aOps_callV (V := .bool (okB (s.getD i 0))) (by rfl) (by rfl) (c_prt1 w₀ _ _) ?_
    simp (decide := true) only [aOps_nil, ev, putD, Slots.put, Slots.get, Slots.keep, if_true, if_false, true_and, ↓ap_unOp, pop_unOp, pU_not]
    try simp (disch := omega) only [wrap_i64, wrap_u8]
    repeat (with_reducible refine And.intro ?_ ?_; · first | trivial | omega | (intro hg; simp only [Bool.and_eq_true, Bool.or_eq_true, Bool.not_eq_true', Bool.and_eq_false_iff, Bool.or_eq_false_iff, Bool.not_eq_false', decide_eq_true_eq, decide_eq_false_iff_not, eqNil] at hg; omega) )
    apply hK; clear hK K
    refine awp_cond (b := _) rfl (fun hb2 => ?_) (fun hb2 => ?_)
    · try simp only [Bool.not_eq_true'] at hb2
      -- region 5  chars.go:24
      refine awp_rseq [4] (by rfl) fun K hK => ?_
      simp (decide := true) only [aOps_nil, ev, absV, absS, putD, Slots.put, Slots.keep, if_true, if_false, true_and, ↓ap_assign, pop_assign]
      repeat (with_reducible refine And.intro ?_ ?_; · first | trivial | omega | (intro hg; simp only [Bool.and_eq_true, Bool.or_eq_true, Bool.not_eq_true', Bool.and_eq_false_iff, Bool.or_eq_false_iff, Bool.not_eq_false', decide_eq_true_eq, decide_eq_false_iff_not, eqNil] at hg; omega) )
      apply hK; clear hK K
      refine awp_ret ?_
      try simp only [thenA_ret, inBlockA_ret]
      refine retA_ret _ (Sub.refl _) (resPre_tmp (resPre_nil)) ?_
      simp (decide := true) only [Slots.get, if_true, and_true, resOf_one]
      rw [← hg, hb2, Bool.false_and]
    · try simp only [Bool.not_eq_false'] at hb2
      refine awp_skip ?_
      change Awp _ _ _ _ _ _ _
      -- region 6  chars.go:22
      refine awp_r [0, 1, 7, 8] (by rfl) ?_
      simp (decide := true) only [aOps_nil, ev, absV, absS, putD, Slots.put, Slots.get, Slots.keep, if_true, if_false, true_and, ↓ap_binOp, pop_binOp, isNilC_int, cond_false, pBinX_int, pI_add, ↓ap_move, pop_move]
      try simp (disch := omega) only [wrap_i64]
      repeat (with_reducible refine And.intro ?_ ?_; · first | trivial | omega | (intro hg; simp only [Bool.and_eq_true, Bool.or_eq_true, Bool.not_eq_true', Bool.and_eq_false_iff, Bool.or_eq_false_iff, Bool.not_eq_false', decide_eq_true_eq, decide_eq_false_iff_not, eqNil] at hg; omega) )
      try simp only [thenA_normal]
      refine ⟨i + 1, rfl, Sub.refl _, ⟨hi', ?_⟩, by omega⟩
      rw [← hg, hb2, Bool.true_and]
  · try simp only [decide_eq_false_iff_not] at hb1
    refine awp_exit ?_
    change Awp _ _ _ _ _ _ _
    -- region 7  chars.go:27
    refine awp_rseq [4] (by rfl) fun K hK => ?_
    simp (decide := true) only [aOps_nil, ev, absV, absS, putD, Slots.put, Slots.keep, if_true, if_false, true_and, ↓ap_assign, pop_assign]
    repeat (with_reducible refine And.intro ?_ ?_; · first | trivial | omega | (intro hg; simp only [Bool.and_eq_true, Bool.or_eq_true, Bool.not_eq_true', Bool.and_eq_false_iff, Bool.or_eq_false_iff, Bool.not_eq_false', decide_eq_true_eq, decide_eq_false_iff_not, eqNil] at hg; omega) )
    apply hK; clear hK K
    refine awp_ret ?_
    try simp only [thenA_ret, inBlockA_ret]
    refine retA_ret _ (Sub.refl _) (resPre_tmp (resPre_nil)) ?_
    simp (decide := true) only [Slots.get, if_true, and_true, resOf_one]
    rw [← hg, List.drop_of_length_le (by omega)]
    rfl
theorem c_printable (w₀ : World) (h : AHeap) (s : Str) (hl : s.length ≤ 4611686018427387904) : ACall Tryd.prog w₀ 24 [.str s] h (fun v h' => v = .bool (s.all okB) ∧ h' = h) := by
  refine acall_intro (n := 5) (rs := [.tmp 2]) Tryd.func24 rfl rfl rfl rfl (Nat.le_of_ble_eq_true rfl) ?_
  simp only [initSlots]
  -- region 0  chars.go:42
  refine awp_rseq [0] (by rfl) fun K hK => ?_
  simp (decide := true) only [aOps_nil, ev, absV, absS, putD, Slots.put, Slots.keep, if_true, if_false, true_and, ↓ap_assign, pop_assign]
  repeat (with_reducible refine And.intro ?_ ?_; · first | trivial | omega | (intro hg; simp only [Bool.and_eq_true, Bool.or_eq_true, Bool.not_eq_true', Bool.and_eq_false_iff, Bool.or_eq_false_iff, Bool.not_eq_false', decide_eq_true_eq, decide_eq_false_iff_not, eqNil] at hg; omega) )
  apply hK; clear hK K
  -- region 1  chars.go:43
  refine awp_rseq [2] (by rfl) fun K hK => ?_
  simp (decide := true) only [ev, putD, Slots.put, Slots.get, if_true, if_false, true_and, ↓ap_move, pop_move]
  repeat (with_reducible refine And.intro ?_ ?_; · first | trivial | omega | (intro hg; simp only [Bool.and_eq_true, Bool.or_eq_true, Bool.not_eq_true', Bool.and_eq_false_iff, Bool.or_eq_false_iff, Bool.not_eq_false', decide_eq_true_eq, decide_eq_false_iff_not, eqNil] at hg; omega) )
  refine aOps_callV (V := .bool (s.all okB)) (by rfl) (by rfl) (c_all w₀ _ s hl) ?_
  simp (decide := true) only [aOps_nil, ev, putD, Slots.put, Slots.get, Slots.keep, if_true, if_false, true_and, ↓ap_assign, pop_assign]
  repeat (with_reducible refine And.intro ?_ ?_; · first | trivial | omega | (intro hg; simp only [Bool.and_eq_true, Bool.or_eq_true, Bool.not_eq_true', Bool.and_eq_false_iff, Bool.or_eq_false_iff, Bool.not_eq_false', decide_eq_true_eq, decide_eq_false_iff_not, eqNil] at hg; omega) )
  apply hK; clear hK K
  refine awp_ret ?_
  try simp only [thenA_ret, inBlockA_ret]
  refine retA_ret _ (Sub.refl _) (resPre_tmp (resPre_nil)) ?_
  simp (decide := true) only [Slots.get, if_true, and_true, resOf_one]
  all_goals first | rfl | exact ⟨rfl, rfl⟩ | (simp (decide := true) only [if_true, if_false, *]; done) | (trace_state; fail)
end Go.Proofs.YtikpnhdjjabdmaaDoor

/-
  Contracts of strings.Builder's methods.
  Conditions: none.
-/
namespace Go.Proofs.YtikpnhdjjabdmaaDoor
open Go.AM
open Go.Proofs
set_option maxRecDepth 100000

theorem cc_fresh (b : Nat) (w : World) (T : TypeId) (cells : Nat) (h0 : w.cell? ⟨b, 0, none⟩ = some (.pointer none)) (hsh : w.shape? b = some (T, cells)) (hc : 0 < cells)
    (hlies : liesAt Tryd.prog Tryd.prog.depth T (cells / Tryd.prog.cellsOf T) 0 63 1 = true) (hfz : w.frozen? ⟨b, 0, none⟩ = false) :
    Calls Tryd.prog 61 #[.pointer (some ⟨b, 0, none⟩)] w fun e w' => e = .returned (.tuple #[]) ∧ w' = w.setCell ⟨b, 0, none⟩ (.pointer (some ⟨b, 0, none⟩)) := by
  have hsz : (Tryd.prog.info? 63).map (·.size) = some 2 := by kernel_rfl
  obtain ⟨j, hj, hjs⟩ := Option.map_eq_some_iff.1 hsz
  go_enter Tryd.func61, Tryd.ntmps61
  go_wp2
  rw [Lib.run_to_unsafe w ⟨b, 0, none⟩ Tryd.underlying60 Tryd.underlying122 hj (by rw [hjs]; decide) hsh hc]
  simp only [Result.andThen]
  rw [Oper.upon_value]
  go_wp2
  rw [run_callFunc_extern Tryd.func74 (by kernel_rfl) (by kernel_rfl) (by kernel_rfl) (e := Extern.AbiNoEscape.same) (by kernel_rfl)]
  rw [Lib.run_noEscape]
  simp only [Result.andThen]
  rw [Oper.upon_value]
  go_wp2
  rw [Lib.run_from_unsafe w ⟨b, 0, none⟩ Tryd.underlying122 Tryd.underlying60 hj hsh hlies]
  simp only [Result.andThen]
  rw [Oper.upon_value]
  go_wp2
  go_end0
  exact ⟨rfl, rfl⟩

theorem cc_used (b : Nat) (w : World) (h0 : w.cell? ⟨b, 0, none⟩ = some (.pointer (some ⟨b, 0, none⟩))) :
    Calls Tryd.prog 61 #[.pointer (some ⟨b, 0, none⟩)] w fun e w' => e = .returned (.tuple #[]) ∧ w' = w := by
  have hsz : (Tryd.prog.info? 63).map (·.size) = some 2 := by kernel_rfl
  obtain ⟨j, hj, hjs⟩ := Option.map_eq_some_iff.1 hsz
  go_enter Tryd.func61, Tryd.ntmps61
  go_wp2
  rw [Lib.run_neq_ptr_same w _ Tryd.underlying60 hj]
  go_wp2
  go_end0
  exact ⟨rfl, rfl⟩

/-- A variable in which a builder stands first. -/
structure BldT (T : TypeId) (m : Nat) : Prop where
  lies : liesAt Tryd.prog Tryd.prog.depth T 1 0 63 1 = true
  cells : Tryd.prog.cellsOf T = m
  two : 2 ≤ m
theorem c_copyCheck (w₀ : World) (h : AHeap) (k : Nat) (rest : List AVal) (st : Bld) (T : TypeId) (hT : BldT T (rest.length + 2)) (ht : tyOf k = some T) (hst : st.ok 5 h k) :
    ACall Tryd.prog w₀ 61 [.ptr (.own k) 0] (bldH h k rest st) (fun v h' => v = .tuple [] ∧ h' = bldH h k rest ⟨true, st.buf⟩) := by
  intro φ vals w hr hvs
  simp only [VRs, VR] at hvs
  obtain ⟨v, vs', rfl, ⟨a, ha, rfl⟩, rfl⟩ := hvs
  obtain ⟨p, hp, hp0, ok⟩ := hr.own k _ (bldH_head hst)
  obtain ⟨t0, cs0, fr0, hcs0⟩ := hr.typ k p hp T ht
  simp only [locAddr, hp, Option.map_some, Option.some.injEq] at ha
  obtain ⟨cs, e, lo, hi, h1, h2, h3, h4, h5, h6⟩ := ok.row
  rw [hcs0] at h1
  cases h1
  obtain ⟨c0, hc0, hv0⟩ := ok.cell 0 (by simp)
  have hfz := ok.frozen 0 (Nat.zero_le _) (by simp at h3; omega)
  rw [t0] at hc0 hfz ha
  simp only [Nat.zero_add] at hc0 hfz ha
  subst ha
  have hsh : w.shape? p.blk = some (T, cs0.size) := by simp [World.shape?, hcs0]
  have hr' := hr.setCell (bldH_head hst) hp (o := 0) (x := .ptr (.own k) 0) (v := .pointer (some ⟨p.blk, 0, none⟩)) (by simp only [VR]; exact ⟨_, by simp [locAddr, hp, t0], rfl⟩) rfl (by simp) (Nat.zero_le _)
  simp only [List.set_cons_zero] at hr'
  rw [bldH_used hst, t0] at hr'
  have hun : VR φ (.tuple []) (.tuple #[]) := by simp only [VR]; exact ⟨[], rfl, by simp [VRs]⟩
  refine .inl ⟨_, Tryd.func61, rfl, rfl, ?_⟩
  simp only [List.getD_cons_zero] at hv0
  by_cases hu : st.used = true
  · have e0 : st.head k = .ptr (.own k) 0 := by rw [Bld.head, if_pos hu]
    rw [e0] at hv0
    simp only [VR, locAddr, hp, Option.map_some, Option.some.injEq] at hv0
    obtain ⟨a, ha, rfl⟩ := hv0
    subst ha
    rw [t0] at hc0
    refine (cc_used p.blk w (by simpa using hc0)).mono fun e w' ⟨e1, e2⟩ => ⟨.tuple #[], e1, φ, .tuple [], _, φ.le_refl, ?_, hun, rfl, rfl⟩
    rw [e2]
    have : st = ⟨true, st.buf⟩ := by cases st; simp at hu; simp [hu]
    rw [← this]
    exact hr
  · have e0 : st.head k = .nilPtr := by rw [Bld.head, if_neg hu]
    rw [e0] at hv0
    simp only [VR] at hv0
    subst hv0
    have hle : rest.length + 2 ≤ cs0.size := by simp at h3; omega
    refine (cc_fresh p.blk w T cs0.size hc0 hsh (by omega) (liesAt_first hT.lies (fun m u => by rw [Tryd.underlying63]; simp) (by
      rw [hT.cells]
      exact Nat.div_pos hle (by omega))) hfz).mono fun e w' ⟨e1, e2⟩ => ⟨.tuple #[], e1, φ, .tuple [], _, φ.le_refl, ?_, hun, rfl, rfl⟩
    rw [e2]
    exact hr'

set_option maxHeartbeats 1000000 in
theorem bs_some (b g cap cells : Nat) (l : List UInt8) (h0 : l ≠ []) (w : World) (hc1 : w.cell? ⟨b, 1, none⟩ = some (.slice (some ⟨g, 0, none⟩) l.length cap)) (hcap : cap ≠ 0) (hsh : w.shape? g = some (5, cells)) (hn : l.length ≤ cells)
    (h63 : l.length ≤ 9223372036854775807) (hcell : ∀ j x, l[j]? = some x → w.cell? ((⟨g, 0, none⟩ : Addr).add j) = some (.int .u8 x.toNat)) :
    Calls Tryd.prog 28 #[.pointer (some ⟨b, 0, none⟩)] w fun e w' => e = .returned (.string ⟨l.toArray⟩) ∧ w' = w.drew.freeze ⟨g, 0, none⟩ l.length := by
  have c1 : w.drew.cell? ⟨b, 1, none⟩ = some (.slice (some ⟨g, 0, none⟩) l.length cap) := hc1
  have hSD : (Builtin.unsafeSliceData_ #[61] 101 #[.slice (some ⟨g, 0, none⟩) l.length cap]).run Tryd.prog w.drew = .ok (.pointer (some ⟨g, 0, none⟩)) w.drew := Lib.run_unsafeSliceData_row _ _ _ _ _ _ hcap
  have hUS : (Builtin.unsafeString_ #[101, 3] 9 #[.pointer (some ⟨g, 0, none⟩), .int .i64 l.length]).run Tryd.prog w.drew = .ok (.string ⟨l.toArray⟩) (w.drew.freeze ⟨g, 0, none⟩ l.length) :=
    Lib.run_unsafeString_row w.drew 101 3 9 5 Tryd.underlying101 (by kernel_rfl) g cells hsh l h0 hn h63 hcell
  go_enter Tryd.func28, Tryd.ntmps28
  go_wp2
  have hmx : Tryd.prog.follows Departure.mixedOrders = true := mixed
  go_region_o
  all_goals (go_wp2; go_ret; exact ⟨rfl, rfl⟩)

set_option maxHeartbeats 1000000 in
theorem bs_nil (b : Nat) (w : World) (hc1 : w.cell? ⟨b, 1, none⟩ = some (.slice none 0 0)) :
    Calls Tryd.prog 28 #[.pointer (some ⟨b, 0, none⟩)] w fun e w' => e = .returned (.string ⟨#[]⟩) ∧ w' = w.drew := by
  have c1 : w.drew.cell? ⟨b, 1, none⟩ = some (.slice none 0 0) := hc1
  have hSD : (Builtin.unsafeSliceData_ #[61] 101 #[.slice none 0 0]).run Tryd.prog w.drew = .ok (.pointer none) w.drew := rfl
  have hUS : (Builtin.unsafeString_ #[101, 3] 9 #[.pointer none, .int .i64 0]).run Tryd.prog w.drew = .ok (.string .empty) w.drew := rfl
  go_enter Tryd.func28, Tryd.ntmps28
  go_wp2
  have hmx : Tryd.prog.follows Departure.mixedOrders = true := mixed
  go_region_o
  all_goals (go_wp2; go_ret; exact ⟨rfl, rfl⟩)

/-- What a builder holds; the builder is forgotten. -/
theorem c_bString (w₀ : World) (h : AHeap) (k : Nat) (rest : List AVal) (st : Bld) (T : TypeId) (hk : h k = none) (ht : tyOf k = some T) (hst : st.ok 5 h k) (hl : st.bytes.length ≤ 140737488355328) :
    ACall Tryd.prog w₀ 28 [.ptr (.own k) 0] (bldH h k rest st) (fun v h' => v = .str st.bytes ∧ h' = h) := by
  intro φ vals w hr hvs
  simp only [VRs, VR] at hvs
  obtain ⟨v, vs', rfl, ⟨a, ha, rfl⟩, rfl⟩ := hvs
  obtain ⟨p, hp, hp0, ok⟩ := hr.own k _ (bldH_head hst)
  obtain ⟨t0, cs0, fr0, hcs0⟩ := hr.typ k p hp T ht
  simp only [locAddr, hp, Option.map_some, Option.some.injEq] at ha
  obtain ⟨c1, hc1, hv1⟩ := ok.cell 1 (by simp)
  rw [t0] at hc1 ha
  simp only [Nat.zero_add] at hc1 ha
  subst ha
  simp only [List.getD_cons_succ, List.getD_cons_zero] at hv1
  refine .inl ⟨_, Tryd.func28, rfl, rfl, ?_⟩
  cases hb : st.buf with
  | none =>
    have e1 := Bld.slice_nil hb
    have e2 := Bld.bytes_nil hb
    rw [e1] at hv1
    simp only [VR] at hv1
    subst hv1
    rw [e2]
    refine (bs_nil p.blk w hc1).mono fun e w' ⟨e1, e2⟩ => ⟨_, e1, φ, .str [], h, φ.le_refl, ?_, rfl, rfl, rfl⟩
    rw [e2]
    exact hr.drew.forget (Sub.bldH hk hst)
  | some q =>
    obtain ⟨kb, l⟩ := q
    have e1 := Bld.slice_some hb
    have e2 := Bld.bytes_some hb
    obtain ⟨s1, s2, s3, s4⟩ := (Bld.ok_some hb).1 hst
    have hkb := bldH_buf (h := h) (k := k) (rest := rest) hb
    obtain ⟨pb, hpb, hpb0, okb⟩ := hr.own kb _ hkb
    obtain ⟨tb0, csb, frb, hcsb⟩ := hr.typ kb pb hpb _ s3
    obtain ⟨cs, e, lo, hi, h1, h2, h3, h4, h5, h6⟩ := okb.row
    rw [hcsb] at h1
    cases h1
    rw [byteCells_length] at h3
    rw [e1] at hv1
    simp only [VR] at hv1
    obtain ⟨k', p', c, a, hk', hp', rfl, hle, hca⟩ := hv1
    cases hk'
    rw [hpb] at hp'
    cases hp'
    have hln : l.length ≠ 0 := by simpa using s4
    obtain ⟨ha, hroom⟩ := hca (by omega)
    subst ha
    rw [tb0] at hc1
    rw [e2]
    rw [e2] at hl
    refine (bs_some p.blk pb.blk c csb.size l s4 w hc1 (by omega) (by simp [World.shape?, hcsb]) (by omega) (by omega) fun j x hj => ?_).mono fun e w' ⟨f1, f2⟩ => ⟨_, f1, φ, .str l, h, φ.le_refl, ?_, rfl, rfl, rfl⟩
    · have hjl : j < l.length := by
        rcases Nat.lt_or_ge j l.length with hx | hx
        · exact hx
        · rw [List.getElem?_eq_none hx] at hj; cases hj
      obtain ⟨cj, hcj, hvj⟩ := okb.cell j (by rw [byteCells_length]; exact hjl)
      rw [tb0, Nat.zero_add] at hcj
      simp only [byteCells_getD hjl] at hvj
      simp only [VR] at hvj
      subst hvj
      have ex : l.getD j 0 = x := by rw [List.getD, hj]; rfl
      rw [ex] at hcj
      have e8 : (⟨pb.blk, 0, none⟩ : Addr).add j = ⟨pb.blk, j, none⟩ := by
        unfold Addr.add
        by_cases hi : j = 0 <;> simp [hi]
      rw [e8]
      exact hcj
    · subst f2
      obtain ⟨z1, z2, z3, z4, z5, z6⟩ := freeze_facts w.drew ⟨pb.blk, 0, none⟩ l.length
      exact hr.drew.dropRow hkb hpb z1 z2 z3 z4 z5 z6 fun j c hj => ⟨Sub.bldH hk hst j c hj, fun e => by subst e; rw [s2] at hj; cases hj⟩
end Go.Proofs.YtikpnhdjjabdmaaDoor

/-
  Contracts of strings.Builder's writing methods.
  Conditions: none.
-/
namespace Go.Proofs.YtikpnhdjjabdmaaDoor
open Go.AM
open Go.Proofs
set_option maxRecDepth 100000

theorem u8_typ : (5 : Nat) < 4096 := by decide
theorem c_WriteString (w₀ : World) (h : AHeap) (k : Nat) (rest : List AVal) (st : Bld) (T : TypeId) (hT : BldT T (rest.length + 2)) (ht : tyOf k = some T) (hk : h k = none) (hst : st.ok 5 h k) (c : List UInt8) (hl : st.bytes.length + c.length ≤ 140737488355328) :
    ACall Tryd.prog w₀ 41 [.ptr (.own k) 0, .str c] (bldH h k rest st) (fun v h' => v = .tuple [.int .i64 c.length, .nilIface] ∧ ∃ st' : Bld, st'.ok 5 h k ∧ st'.bytes = st.bytes ++ c ∧ h' = bldH h k rest st') := by
  have hst2 : (⟨true, st.buf⟩ : Bld).ok 5 h k := hst
  have hhead := bldH_head (rest := rest) hst2
  refine acall_intro (n := 19) (rs := [.tmp 4, .tmp 5]) Tryd.func41 rfl rfl rfl rfl (Nat.le_of_ble_eq_true rfl) ?_
  simp only [initSlots]
  -- region 0  builder.go:112
  refine awp_rseq [0, 1] (by rfl) fun K hK => ?_
  simp (decide := true) only [aOps_nil, ev, absV, absS, putD, Slots.put, Slots.keep, if_true, if_false, true_and, ↓ap_assign, pop_assign]
  repeat (with_reducible refine And.intro ?_ ?_; · first | trivial | omega | (intro hg; simp only [Bool.and_eq_true, Bool.or_eq_true, Bool.not_eq_true', Bool.and_eq_false_iff, Bool.or_eq_false_iff, Bool.not_eq_false', decide_eq_true_eq, decide_eq_false_iff_not, eqNil] at hg; omega) )
  apply hK; clear hK K
  -- region 1  builder.go:113
  refine awp_rseq [0, 1] (by rfl) fun K hK => ?_
  simp (decide := true) only [ev, putD, Slots.put, Slots.get, if_true, if_false, true_and, ↓ap_move, pop_move]
  repeat (with_reducible refine And.intro ?_ ?_; · first | trivial | omega | (intro hg; simp only [Bool.and_eq_true, Bool.or_eq_true, Bool.not_eq_true', Bool.and_eq_false_iff, Bool.or_eq_false_iff, Bool.not_eq_false', decide_eq_true_eq, decide_eq_false_iff_not, eqNil] at hg; omega) )
  refine aOps_call (by rfl) (by rfl) (c_copyCheck w₀ h k rest st T hT ht hst) fun x1q1 h1q1 hx1q1 => ?_
  obtain ⟨rfl, rfl⟩ := hx1q1
  simp (decide := true) only [aOps_nil, putD, Slots.put, Slots.keep, if_true, if_false]
  repeat (with_reducible refine And.intro ?_ ?_; · first | trivial | omega | (intro hg; simp only [Bool.and_eq_true, Bool.or_eq_true, Bool.not_eq_true', Bool.and_eq_false_iff, Bool.or_eq_false_iff, Bool.not_eq_false', decide_eq_true_eq, decide_eq_false_iff_not, eqNil] at hg; omega) )
  apply hK; clear hK K
  -- region 2  builder.go:114
  refine awp_rseq [1] (by rfl) fun K hK => ?_
  simp (decide := true) only [ev, putD, Slots.put, Slots.get, if_true, if_false, true_and, ↓ap_move, pop_move, ↓ap_nilCheck, pop_nilCheck, pNil_ptr, ↓ap_fieldAddr, pop_fieldAddr, fa63_1, ↓ap_loadL, apL_mk, pLoad_one ag61, Bld.slice_live, List.getD_cons_zero, List.getD_cons_succ, rd_own w₀ hhead]
  repeat (with_reducible refine And.intro ?_ ?_; · first | trivial | omega | (intro hg; simp only [Bool.and_eq_true, Bool.or_eq_true, Bool.not_eq_true', Bool.and_eq_false_iff, Bool.or_eq_false_iff, Bool.not_eq_false', decide_eq_true_eq, decide_eq_false_iff_not, eqNil] at hg; omega) )
  refine aOps_appendBld (src := c) (h₀ := h) (k := k) (cs := rest) (st := ⟨true, st.buf⟩) (by rfl) (by rfl) Tryd.underlying61 Tryd.underlying9 (by intro k e; cases e) sz5 by5 ze5 u8_typ (by rfl) hk hst2 (Sub.refl _) (by rfl) (SrcB.str _ _ _) (by simpa [Bld.bytes] using hl) fun st' hu' hst' hb' h' hk' hsub => ?_
  simp (decide := true) only [ev, putD, Slots.put, Slots.get, if_true, if_false, true_and, ↓ap_nilCheck, pop_nilCheck, pNil_ptr, ↓ap_fieldAddr, pop_fieldAddr, fa63_1]
  repeat (with_reducible refine And.intro ?_ ?_; · first | trivial | omega | (intro hg; simp only [Bool.and_eq_true, Bool.or_eq_true, Bool.not_eq_true', Bool.and_eq_false_iff, Bool.or_eq_false_iff, Bool.not_eq_false', decide_eq_true_eq, decide_eq_false_iff_not, eqNil] at hg; omega) )
  refine aOps_store (by rfl) (by rfl) hk' sz61 (Bld.slice_live _) (by rw [Bld.slice_cells]; rfl) (by simp) (Nat.zero_le _) (by rw [Bld.slice_cells]; simp [allScal, Bld.slice_scal]) ?_
  rw [Bld.slice_cells]
  simp only [setAt, List.set_cons_succ, List.set_cons_zero]
  have hhd : st'.head k = (⟨true, st.buf⟩ : Bld).head k := by unfold Bld.head; rw [hu']
  rw [hhd] at hsub
  simp (decide := true) only [aOps_nil, putD, Slots.keep, if_true, if_false]
  repeat (with_reducible refine And.intro ?_ ?_; · first | trivial | omega | (intro hg; simp only [Bool.and_eq_true, Bool.or_eq_true, Bool.not_eq_true', Bool.and_eq_false_iff, Bool.or_eq_false_iff, Bool.not_eq_false', decide_eq_true_eq, decide_eq_false_iff_not, eqNil] at hg; omega) )
  apply hK; clear hK K
  -- region 3  builder.go:115
  refine awp_rseq [4, 5] (by rfl) fun K hK => ?_
  simp (decide := true) only [aOps_nil, ev, absV, absS, putD, Slots.put, Slots.get, Slots.keep, if_true, if_false, true_and, ↓ap_move, pop_move, ↓ap_len, pop_len, pLen_str Tryd.underlying9, ↓ap_assign, pop_assign]
  repeat (with_reducible refine And.intro ?_ ?_; · first | trivial | omega | (intro hg; simp only [Bool.and_eq_true, Bool.or_eq_true, Bool.not_eq_true', Bool.and_eq_false_iff, Bool.or_eq_false_iff, Bool.not_eq_false', decide_eq_true_eq, decide_eq_false_iff_not, eqNil] at hg; omega) )
  apply hK; clear hK K
  refine awp_ret ?_
  try simp only [thenA_ret, inBlockA_ret]
  refine retA_ret (bldH h k rest st') hsub (resPre_tmp (resPre_tmp (resPre_nil))) ?_
  simp (decide := true) only [Slots.get, if_true, if_false, true_and, resOf_two]
  exact ⟨st', hst', hb', rfl⟩
end Go.Proofs.YtikpnhdjjabdmaaDoor

