/-
  Contracts of strings.Builder's writing methods.
  Conditions: none.
-/
import Derived.Test.YthiiakghjoeikaaGreatDoorLbA
set_option linter.unusedSimpArgs false
set_option linter.unnecessarySimpa false
set_option linter.unusedVariables false
namespace Go.Proofs.YthiiakghjoeikaaGreatDoor
open Go.AM
open Go.Proofs
set_option maxRecDepth 100000

theorem u8_typ : (5 : Nat) < 4096 := by decide
theorem c_WriteByte (w₀ : World) (h : AHeap) (k : Nat) (rest : List AVal) (st : Bld) (T : TypeId) (hT : BldT T (rest.length + 2)) (ht : tyOf k = some T) (hk : h k = none) (hst : st.ok 5 h k) (c : UInt8) (hl : st.bytes.length + 1 ≤ 140737488355328) :
    ACall Tryz.prog w₀ 76 [.ptr (.own k) 0, .int .u8 c.toNat] (bldH h k rest st) (fun v h' => v = .nilIface ∧ ∃ st' : Bld, st'.ok 5 h k ∧ st'.bytes = st.bytes ++ [c] ∧ h' = bldH h k rest st') := by
  have hst2 : (⟨true, st.buf⟩ : Bld).ok 5 h k := hst
  have hhead := bldH_head (rest := rest) hst2
  refine acall_intro (n := 17) (rs := [.tmp 4]) Tryz.func76 rfl rfl rfl rfl (Nat.le_of_ble_eq_true rfl) ?_
  simp only [initSlots]
  -- region 0  builder.go:95
  refine awp_rseq [0, 1] (by rfl) fun K hK => ?_
  simp (decide := true) only [aOps_nil, ev, absV, absS, putD, Slots.put, Slots.keep, if_true, if_false, true_and, ↓ap_assign, pop_assign]
  repeat (with_reducible refine And.intro ?_ ?_; · first | trivial | omega | (intro hg; simp only [Bool.and_eq_true, Bool.or_eq_true, Bool.not_eq_true', Bool.and_eq_false_iff, Bool.or_eq_false_iff, Bool.not_eq_false', decide_eq_true_eq, decide_eq_false_iff_not, eqNil] at hg; omega) )
  apply hK; clear hK K
  -- region 1  builder.go:96
  refine awp_rseq [0, 1] (by rfl) fun K hK => ?_
  simp (decide := true) only [ev, putD, Slots.put, Slots.get, if_true, if_false, true_and, ↓ap_move, pop_move]
  repeat (with_reducible refine And.intro ?_ ?_; · first | trivial | omega | (intro hg; simp only [Bool.and_eq_true, Bool.or_eq_true, Bool.not_eq_true', Bool.and_eq_false_iff, Bool.or_eq_false_iff, Bool.not_eq_false', decide_eq_true_eq, decide_eq_false_iff_not, eqNil] at hg; omega) )
  refine aOps_call (by rfl) (by rfl) (c_copyCheck w₀ h k rest st T hT ht hst) fun x1q1 h1q1 hx1q1 => ?_
  obtain ⟨rfl, rfl⟩ := hx1q1
  simp (decide := true) only [aOps_nil, putD, Slots.put, Slots.keep, if_true, if_false]
  repeat (with_reducible refine And.intro ?_ ?_; · first | trivial | omega | (intro hg; simp only [Bool.and_eq_true, Bool.or_eq_true, Bool.not_eq_true', Bool.and_eq_false_iff, Bool.or_eq_false_iff, Bool.not_eq_false', decide_eq_true_eq, decide_eq_false_iff_not, eqNil] at hg; omega) )
  apply hK; clear hK K
  -- region 2  builder.go:97
  refine awp_rseq [] (by rfl) fun K hK => ?_
  simp (decide := true) only [ev, putD, Slots.put, Slots.get, if_true, if_false, true_and, ↓ap_move, pop_move, ↓ap_nilCheck, pop_nilCheck, pNil_ptr, ↓ap_fieldAddr, pop_fieldAddr, fa95_1, ↓ap_loadL, apL_mk, pLoad_one ag22, Bld.slice_live, List.getD_cons_zero, List.getD_cons_succ, rd_own w₀ hhead]
  repeat (with_reducible refine And.intro ?_ ?_; · first | trivial | omega | (intro hg; simp only [Bool.and_eq_true, Bool.or_eq_true, Bool.not_eq_true', Bool.and_eq_false_iff, Bool.or_eq_false_iff, Bool.not_eq_false', decide_eq_true_eq, decide_eq_false_iff_not, eqNil] at hg; omega) )
  refine aOps_buildSlice (cs := byteCells [c]) (by rfl) fun k6 hk6 => ?_
  refine aOps_appendBld (src := [c]) (h₀ := h) (k := k) (cs := rest) (st := ⟨true, st.buf⟩) (by rfl) (by rfl) Tryz.underlying22 Tryz.underlying22 (by intro k e; cases e) sz5 by5 ze5 u8_typ (by rfl) hk hst2 (Sub.set hk6) (by rfl) (SrcB.of (IsB.own (AHeap.set_same _ _ _) rfl (Nat.le_refl _))) (by simpa [Bld.bytes] using hl) fun st' hu' hst' hb' h' hk' hsub => ?_
  simp (decide := true) only [ev, putD, Slots.put, Slots.get, if_true, if_false, true_and, ↓ap_nilCheck, pop_nilCheck, pNil_ptr, ↓ap_fieldAddr, pop_fieldAddr, fa95_1]
  repeat (with_reducible refine And.intro ?_ ?_; · first | trivial | omega | (intro hg; simp only [Bool.and_eq_true, Bool.or_eq_true, Bool.not_eq_true', Bool.and_eq_false_iff, Bool.or_eq_false_iff, Bool.not_eq_false', decide_eq_true_eq, decide_eq_false_iff_not, eqNil] at hg; omega) )
  refine aOps_store (by rfl) (by rfl) hk' sz22 (Bld.slice_live _) (by rw [Bld.slice_cells]; rfl) (by simp) (Nat.zero_le _) (by rw [Bld.slice_cells]; simp [allScal, Bld.slice_scal]) ?_
  rw [Bld.slice_cells]
  simp only [setAt, List.set_cons_succ, List.set_cons_zero]
  have hhd : st'.head k = (⟨true, st.buf⟩ : Bld).head k := by unfold Bld.head; rw [hu']
  rw [hhd] at hsub
  simp (decide := true) only [aOps_nil, putD, Slots.keep, if_false]
  repeat (with_reducible refine And.intro ?_ ?_; · first | trivial | omega | (intro hg; simp only [Bool.and_eq_true, Bool.or_eq_true, Bool.not_eq_true', Bool.and_eq_false_iff, Bool.or_eq_false_iff, Bool.not_eq_false', decide_eq_true_eq, decide_eq_false_iff_not, eqNil] at hg; omega) )
  apply hK; clear hK K
  -- region 3  builder.go:98
  refine awp_rseq [4] (by rfl) fun K hK => ?_
  simp (decide := true) only [aOps_nil, ev, absV, absS, putD, Slots.put, Slots.keep, if_true, true_and, ↓ap_assign, pop_assign]
  repeat (with_reducible refine And.intro ?_ ?_; · first | trivial | omega | (intro hg; simp only [Bool.and_eq_true, Bool.or_eq_true, Bool.not_eq_true', Bool.and_eq_false_iff, Bool.or_eq_false_iff, Bool.not_eq_false', decide_eq_true_eq, decide_eq_false_iff_not, eqNil] at hg; omega) )
  apply hK; clear hK K
  refine awp_ret ?_
  try simp only [thenA_ret, inBlockA_ret]
  refine retA_ret (bldH h k rest st') hsub (resPre_tmp (resPre_nil)) ?_
  simp (decide := true) only [Slots.get, if_true, true_and, resOf_one]
  exact ⟨st', hst', hb', rfl⟩
theorem c_WriteString (w₀ : World) (h : AHeap) (k : Nat) (rest : List AVal) (st : Bld) (T : TypeId) (hT : BldT T (rest.length + 2)) (ht : tyOf k = some T) (hk : h k = none) (hst : st.ok 5 h k) (c : List UInt8) (hl : st.bytes.length + c.length ≤ 140737488355328) :
    ACall Tryz.prog w₀ 73 [.ptr (.own k) 0, .str c] (bldH h k rest st) (fun v h' => v = .tuple [.int .i64 c.length, .nilIface] ∧ ∃ st' : Bld, st'.ok 5 h k ∧ st'.bytes = st.bytes ++ c ∧ h' = bldH h k rest st') := by
  have hst2 : (⟨true, st.buf⟩ : Bld).ok 5 h k := hst
  have hhead := bldH_head (rest := rest) hst2
  refine acall_intro (n := 19) (rs := [.tmp 4, .tmp 5]) Tryz.func73 rfl rfl rfl rfl (Nat.le_of_ble_eq_true rfl) ?_
  simp only [initSlots]
  -- region 0  builder.go:112
  refine awp_rseq [0, 1] (by rfl) fun K hK => ?_
  simp (decide := true) only [aOps_nil, ev, absV, absS, putD, Slots.put, Slots.keep, if_true, if_false, true_and, ↓ap_assign, pop_assign]
  repeat (with_reducible refine And.intro ?_ ?_; · first | trivial | omega | (intro hg; simp only [Bool.and_eq_true, Bool.or_eq_true, Bool.not_eq_true', Bool.and_eq_false_iff, Bool.or_eq_false_iff, Bool.not_eq_false', decide_eq_true_eq, decide_eq_false_iff_not, eqNil] at hg; omega) )
  apply hK; clear hK K
  -- region 1  builder.go:113
  refine awp_rseq [0, 1] (by rfl) fun K hK => ?_
  simp (decide := true) only [ev, putD, Slots.put, Slots.get, if_true, if_false, true_and, ↓ap_move, pop_move]
  repeat (with_reducible refine And.intro ?_ ?_; · first | trivial | omega | (intro hg; simp only [Bool.and_eq_true, Bool.or_eq_true, Bool.not_eq_true', Bool.and_eq_false_iff, Bool.or_eq_false_iff, Bool.not_eq_false', decide_eq_true_eq, decide_eq_false_iff_not, eqNil] at hg; omega) )
  refine aOps_call (by rfl) (by rfl) (c_copyCheck w₀ h k rest st T hT ht hst) fun x1q1 h1q1 hx1q1 => ?_
  obtain ⟨rfl, rfl⟩ := hx1q1
  simp (decide := true) only [aOps_nil, putD, Slots.put, Slots.keep, if_true, if_false]
  repeat (with_reducible refine And.intro ?_ ?_; · first | trivial | omega | (intro hg; simp only [Bool.and_eq_true, Bool.or_eq_true, Bool.not_eq_true', Bool.and_eq_false_iff, Bool.or_eq_false_iff, Bool.not_eq_false', decide_eq_true_eq, decide_eq_false_iff_not, eqNil] at hg; omega) )
  apply hK; clear hK K
  -- region 2  builder.go:114
  refine awp_rseq [1] (by rfl) fun K hK => ?_
  simp (decide := true) only [ev, putD, Slots.put, Slots.get, if_true, if_false, true_and, ↓ap_move, pop_move, ↓ap_nilCheck, pop_nilCheck, pNil_ptr, ↓ap_fieldAddr, pop_fieldAddr, fa95_1, ↓ap_loadL, apL_mk, pLoad_one ag22, Bld.slice_live, List.getD_cons_zero, List.getD_cons_succ, rd_own w₀ hhead]
  repeat (with_reducible refine And.intro ?_ ?_; · first | trivial | omega | (intro hg; simp only [Bool.and_eq_true, Bool.or_eq_true, Bool.not_eq_true', Bool.and_eq_false_iff, Bool.or_eq_false_iff, Bool.not_eq_false', decide_eq_true_eq, decide_eq_false_iff_not, eqNil] at hg; omega) )
  refine aOps_appendBld (src := c) (h₀ := h) (k := k) (cs := rest) (st := ⟨true, st.buf⟩) (by rfl) (by rfl) Tryz.underlying22 Tryz.underlying9 (by intro k e; cases e) sz5 by5 ze5 u8_typ (by rfl) hk hst2 (Sub.refl _) (by rfl) (SrcB.str _ _ _) (by simpa [Bld.bytes] using hl) fun st' hu' hst' hb' h' hk' hsub => ?_
  simp (decide := true) only [ev, putD, Slots.put, Slots.get, if_true, if_false, true_and, ↓ap_nilCheck, pop_nilCheck, pNil_ptr, ↓ap_fieldAddr, pop_fieldAddr, fa95_1]
  repeat (with_reducible refine And.intro ?_ ?_; · first | trivial | omega | (intro hg; simp only [Bool.and_eq_true, Bool.or_eq_true, Bool.not_eq_true', Bool.and_eq_false_iff, Bool.or_eq_false_iff, Bool.not_eq_false', decide_eq_true_eq, decide_eq_false_iff_not, eqNil] at hg; omega) )
  refine aOps_store (by rfl) (by rfl) hk' sz22 (Bld.slice_live _) (by rw [Bld.slice_cells]; rfl) (by simp) (Nat.zero_le _) (by rw [Bld.slice_cells]; simp [allScal, Bld.slice_scal]) ?_
  rw [Bld.slice_cells]
  simp only [setAt, List.set_cons_succ, List.set_cons_zero]
  have hhd : st'.head k = (⟨true, st.buf⟩ : Bld).head k := by unfold Bld.head; rw [hu']
  rw [hhd] at hsub
  simp (decide := true) only [aOps_nil, putD, Slots.keep, if_true, if_false]
  repeat (with_reducible refine And.intro ?_ ?_; · first | trivial | omega | (intro hg; simp only [Bool.and_eq_true, Bool.or_eq_true, Bool.not_eq_true', Bool.and_eq_false_iff, Bool.or_eq_false_iff, Bool.not_eq_false', decide_eq_true_eq, decide_eq_false_iff_not, eqNil] at hg; omega) )
  apply hK; clear hK K
  -- region 3  builder.go:115
  refine awp_rseq [4, 5] (by rfl) fun K hK => ?_
  simp (decide := true) only [aOps_nil, ev, absV, absS, putD, Slots.put, Slots.get, Slots.keep, if_true, if_false, true_and, ↓ap_move, pop_move, ↓ap_len, pop_len, pLen_str Tryz.underlying9, ↓ap_assign, pop_assign]
  repeat (with_reducible refine And.intro ?_ ?_; · first | trivial | omega | (intro hg; simp only [Bool.and_eq_true, Bool.or_eq_true, Bool.not_eq_true', Bool.and_eq_false_iff, Bool.or_eq_false_iff, Bool.not_eq_false', decide_eq_true_eq, decide_eq_false_iff_not, eqNil] at hg; omega) )
  apply hK; clear hK K
  refine awp_ret ?_
  try simp only [thenA_ret, inBlockA_ret]
  refine retA_ret (bldH h k rest st') hsub (resPre_tmp (resPre_tmp (resPre_nil))) ?_
  simp (decide := true) only [Slots.get, if_true, if_false, true_and, resOf_two]
  exact ⟨st', hst', hb', rfl⟩
end Go.Proofs.YthiiakghjoeikaaGreatDoor
