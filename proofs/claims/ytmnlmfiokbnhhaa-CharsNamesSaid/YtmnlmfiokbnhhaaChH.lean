/-
  Contracts: slices.Clone, slices.Clip at bytes, Trim of the package chars, Bytes and at of the law's package.
  Conditions: none.
-/
import Derived.Test.YtmnlmfiokbnhhaaChG
set_option linter.unusedSimpArgs false
set_option linter.unusedVariables false
namespace Go.Proofs.Ytmnlmfiokbnhhaa
open Go.AM
open Go.Proofs
set_option maxRecDepth 100000

/-- A copy in memory of its own, with whatever room. -/
def ClonedB (h : AHeap) (bs : List UInt8) (v : AVal) (h' : AHeap) : Prop :=
  (bs = [] ∧ v = .nilSlice ∧ h' = h) ∨ ∃ k c, h k = none ∧ v = .slice (.own k) 0 bs.length c ∧ (c = .exact bs.length ∨ c = .grow 1) ∧ h' = h.set k ⟨byteCells bs, 0⟩

theorem c_clone (w₀ : World) (h : AHeap) (v : AVal) (bs : List UInt8) (hb : IsB w₀ h v bs) (hl : bs.length ≤ 140737488355328) : ACall Try.prog w₀ 30 [v] h (ClonedB h bs) := by
  refine acall_intro (n := 8) (rs := [.tmp 2]) Try.func30 rfl rfl rfl rfl (Nat.le_of_ble_eq_true rfl) ?_
  simp only [initSlots]
  -- region 0  slices.go:355
  refine awp_rseq [0] (by rfl) fun K hK => ?_
  simp (decide := true) only [aOps_nil, ev, absV, absS, putD, Slots.put, Slots.get, Slots.keep, if_true, if_false, List.contains_cons, List.contains_nil, true_and, and_true, ↓ap_assign, pop_assign, hb.eqnil Try.underlying25]
  repeat (with_reducible refine And.intro ?_ ?_; · first | trivial | omega | (intro hg; simp only [Bool.and_eq_true, Bool.or_eq_true, Bool.not_eq_true', Bool.and_eq_false_iff, Bool.or_eq_false_iff, Bool.not_eq_false', decide_eq_true_eq, decide_eq_false_iff_not, eqNil] at hg; omega))
  apply hK; clear hK K
  refine awp_seq ?_
  -- region 1  slices.go:357
  refine awp_rseq [0, 4] (by rfl) fun K hK => ?_
  simp (decide := true) only [aOps_nil, ev, absV, absS, putD, Slots.put, Slots.get, Slots.keep, if_true, if_false, List.contains_cons, List.contains_nil, true_and, and_true, ↓ap_move, pop_move, ↓ap_binOp, pop_binOp, hb.eqnil Try.underlying25]
  repeat (with_reducible refine And.intro ?_ ?_; · first | trivial | omega | (intro hg; simp only [Bool.and_eq_true, Bool.or_eq_true, Bool.not_eq_true', Bool.and_eq_false_iff, Bool.or_eq_false_iff, Bool.not_eq_false', decide_eq_true_eq, decide_eq_false_iff_not, eqNil] at hg; omega))
  apply hK; clear hK K
  refine awp_cond (b := _) rfl (fun hb1 => ?_) (fun hb1 => ?_)
  · try simp only [decide_eq_true_eq, decide_eq_false_iff_not, Bool.not_eq_true', Bool.not_eq_false', Bool.and_eq_true, Bool.and_eq_false_iff, Bool.or_eq_true, Bool.or_eq_false_iff, Bool.true_eq, Bool.false_eq, reduceCtorEq] at hb1
    -- region 2  slices.go:358
    refine awp_rseq [2] (by rfl) fun K hK => ?_
    simp (decide := true) only [aOps_nil, ev, absV, absS, putD, Slots.put, Slots.get, Slots.keep, if_true, if_false, List.contains_cons, List.contains_nil, true_and, and_true, ↓ap_assign, pop_assign, hb.eqnil Try.underlying25]
    repeat (with_reducible refine And.intro ?_ ?_; · first | trivial | omega | (intro hg; simp only [Bool.and_eq_true, Bool.or_eq_true, Bool.not_eq_true', Bool.and_eq_false_iff, Bool.or_eq_false_iff, Bool.not_eq_false', decide_eq_true_eq, decide_eq_false_iff_not, eqNil] at hg; omega))
    apply hK; clear hK K
    refine awp_ret ?_
    try simp only [thenA_ret, inBlockA_ret]
    refine retA_ret _ (Sub.refl _) (resPre_tmp (resPre_nil)) ?_
    simp (decide := true) only [aOps_nil, ev, absV, absS, putD, Slots.put, Slots.get, Slots.keep, if_true, if_false, List.contains_cons, List.contains_nil, true_and, and_true, resOf_one, hb.eqnil Try.underlying25]
    exact .inl ⟨(hb.of_nil hb1).2, rfl, rfl⟩
  · try simp only [decide_eq_true_eq, decide_eq_false_iff_not, Bool.not_eq_true', Bool.not_eq_false', Bool.and_eq_true, Bool.and_eq_false_iff, Bool.or_eq_true, Bool.or_eq_false_iff, Bool.true_eq, Bool.false_eq, reduceCtorEq] at hb1
    refine awp_skip ?_
    change Awp _ _ _ _ _ _ _
    -- region 3  slices.go:362
    refine awp_rseq [2] (by rfl) fun K hK => ?_
    refine aOps_buildSlice (cs := []) (ps := []) (by kernel_rfl) fun k3 hk3 => ?_
    simp (decide := true) only [aOps_nil, ev, absV, absS, putD, Slots.put, Slots.get, Slots.keep, if_true, if_false, List.contains_cons, List.contains_nil, true_and, and_true, ↓ap_move, pop_move, hb.eqnil Try.underlying25]
    repeat (with_reducible refine And.intro ?_ ?_; · first | trivial | omega | (intro hg; simp only [Bool.and_eq_true, Bool.or_eq_true, Bool.not_eq_true', Bool.and_eq_false_iff, Bool.or_eq_false_iff, Bool.not_eq_false', decide_eq_true_eq, decide_eq_false_iff_not, eqNil] at hg; omega))
    refine aOps_appendNew (t := 25) (by rfl) (by rfl) Try.underlying25 Try.underlying25 (fun _ => by simp) sz5 by5 ze5 (by rfl) (.inr ⟨_, _, rfl⟩) (by rfl) (SrcB.of (hb.mono (Sub.set hk3))) hl (fun x h4 hx => ?_)
    simp (decide := true) only [aOps_nil, ev, absV, absS, putD, Slots.put, Slots.get, Slots.keep, if_true, if_false, List.contains_cons, List.contains_nil, true_and, and_true, ↓ap_assign, pop_assign, hb.eqnil Try.underlying25]
    repeat (with_reducible refine And.intro ?_ ?_; · first | trivial | omega | (intro hg; simp only [Bool.and_eq_true, Bool.or_eq_true, Bool.not_eq_true', Bool.and_eq_false_iff, Bool.or_eq_false_iff, Bool.not_eq_false', decide_eq_true_eq, decide_eq_false_iff_not, eqNil] at hg; omega))
    apply hK; clear hK K
    refine awp_ret ?_
    try simp only [thenA_ret, inBlockA_ret]
    refine retA_retE (resPre_tmp (resPre_nil)) ?_
    simp (decide := true) only [aOps_nil, ev, absV, absS, putD, Slots.put, Slots.get, Slots.keep, if_true, if_false, List.contains_cons, List.contains_nil, true_and, and_true, resOf_one, hb.eqnil Try.underlying25]
    rcases hx with ⟨rfl, rfl, rfl⟩ | ⟨e, k4, hk4, rfl, rfl⟩
    · exact ⟨_, Sub.refl _, .inr ⟨_, _, hk3, rfl, .inl rfl, rfl⟩⟩
    · exact ⟨h.set k4 ⟨byteCells bs, 0⟩, Sub.over hk3 hk4, .inr ⟨_, _, (Sub.set hk3).none hk4, rfl, .inr rfl, rfl⟩⟩

theorem ClonedB.isB {w₀ : World} {h : AHeap} {bs : List UInt8} {v : AVal} {h' : AHeap} (hf : ClonedB h bs v h') : IsB w₀ h' v bs := by
  rcases hf with ⟨rfl, rfl, rfl⟩ | ⟨k, c, hk, rfl, hc, rfl⟩
  · exact .nil
  · refine IsB.own (AHeap.set_same _ _ _) rfl ?_
    rcases hc with rfl | rfl
    · exact Nat.le_refl _
    · rfl

theorem ClonedB.clip {P : Program} {h : AHeap} {bs : List UInt8} {v : AVal} {h' : AHeap} (hf : ClonedB h bs v h') {t e : TypeId} (ht : P.underlying t = some (.slice e)) (hs : szOf P e = some 1) :
    pSlice P t v none (some (.int .i64 bs.length)) (some (.int .i64 bs.length)) = ⟨True, match v with | .slice l o n _ => .slice l o n (.exact n) | v => v⟩ := by
  rcases hf with ⟨rfl, rfl, rfl⟩ | ⟨k, c, hk, rfl, hc, rfl⟩
  · simp [pSlice, ht, hs, bndA]
  · rcases hc with rfl | rfl <;> simp [pSlice, ht, hs, bndA]
theorem ClonedB.clipped {h : AHeap} {bs : List UInt8} {v : AVal} {h' : AHeap} (hf : ClonedB h bs v h') : FreshB h bs (match v with | .slice l o n _ => .slice l o n (.exact n) | v => v) h' := by
  rcases hf with ⟨rfl, rfl, rfl⟩ | ⟨k, c, hk, rfl, hc, rfl⟩
  · exact .inl ⟨rfl, rfl, rfl⟩
  · exact .inr ⟨k, hk, rfl, rfl⟩

theorem c_clip (w₀ : World) (h₀ h : AHeap) (v : AVal) (bs : List UInt8) (hv : ClonedB h₀ bs v h) : ACall Try.prog w₀ 29 [v] h (FreshB h₀ bs) := by
  refine acall_intro (n := 9) (rs := [.tmp 2]) Try.func29 rfl rfl rfl rfl (Nat.le_of_ble_eq_true rfl) ?_
  simp only [initSlots]
  -- region 0  slices.go:435
  refine awp_rseq [0] (by rfl) fun K hK => ?_
  simp (decide := true) only [aOps_nil, ev, absV, absS, putD, Slots.put, Slots.get, Slots.keep, if_true, if_false, List.contains_cons, List.contains_nil, true_and, and_true, ↓ap_assign, pop_assign, hv.isB.len (w₀ := w₀) Try.underlying25, hv.clip (P := Try.prog) Try.underlying25 sz5]
  repeat (with_reducible refine And.intro ?_ ?_; · first | trivial | omega | (intro hg; simp only [Bool.and_eq_true, Bool.or_eq_true, Bool.not_eq_true', Bool.and_eq_false_iff, Bool.or_eq_false_iff, Bool.not_eq_false', decide_eq_true_eq, decide_eq_false_iff_not, eqNil] at hg; omega))
  apply hK; clear hK K
  -- region 1  slices.go:436
  refine awp_rseq [2] (by rfl) fun K hK => ?_
  simp (decide := true) only [aOps_nil, ev, absV, absS, putD, Slots.put, Slots.get, Slots.keep, if_true, if_false, List.contains_cons, List.contains_nil, true_and, and_true, ↓ap_move, pop_move, ↓ap_len, pop_len, pLen_slice Try.underlying25, pLen_nil Try.underlying25, ↓ap_slice, pop_slice, evO, pSlice_ex Try.underlying25 sz5, pSlice_gr Try.underlying25 sz5, pSlice_ex3 Try.underlying25 sz5, pSlice_gr3 Try.underlying25 sz5, pSliceX_nil Try.underlying25 sz5 none none rfl rfl, pSliceE, pSliceG, pSliceE3, bndA_none, bndA_int, ↓ap_assign, pop_assign, hv.isB.len (w₀ := w₀) Try.underlying25, hv.clip (P := Try.prog) Try.underlying25 sz5]
  repeat (with_reducible refine And.intro ?_ ?_; · first | trivial | omega | (intro hg; simp only [Bool.and_eq_true, Bool.or_eq_true, Bool.not_eq_true', Bool.and_eq_false_iff, Bool.or_eq_false_iff, Bool.not_eq_false', decide_eq_true_eq, decide_eq_false_iff_not, eqNil] at hg; omega))
  apply hK; clear hK K
  refine awp_ret ?_
  try simp only [thenA_ret, inBlockA_ret]
  refine retA_ret _ (Sub.refl _) (resPre_tmp (resPre_nil)) ?_
  simp (decide := true) only [aOps_nil, ev, absV, absS, putD, Slots.put, Slots.get, Slots.keep, if_true, if_false, List.contains_cons, List.contains_nil, true_and, and_true, resOf_one, hv.isB.len (w₀ := w₀) Try.underlying25, hv.clip (P := Try.prog) Try.underlying25 sz5]
  exact hv.clipped

/-- How much of a text is left without the spaces at its end. -/
def trimN (bs : List UInt8) : Nat → Nat
  | 0 => 0
  | n + 1 => if bs.getD n 0 = 32 then trimN bs n else n + 1

theorem trimN_le (bs : List UInt8) : ∀ n, trimN bs n ≤ n
  | 0 => Nat.le_refl _
  | n + 1 => by
    simp only [trimN]
    split
    · exact Nat.le_trans (trimN_le bs n) (Nat.le_succ _)
    · exact Nat.le_refl _

theorem trimN_space (bs : List UInt8) (n : Nat) (hn : 0 < (n : Int)) (h : ((bs.getD (n - 1) 0).toNat : Int) = 32) : trimN bs n = trimN bs (n - 1) := by
  cases n with
  | zero => omega
  | succ n =>
    simp only [Nat.add_sub_cancel] at h ⊢
    simp only [trimN]
    rw [if_pos]
    apply UInt8.toNat_inj.1
    have : (32 : UInt8).toNat = 32 := rfl
    omega
theorem trimN_stop (bs : List UInt8) (n : Nat) (h : 0 < n → ¬ ((bs.getD (n - 1) 0).toNat : Int) = 32) : trimN bs n = n := by
  cases n with
  | zero => rfl
  | succ n =>
    have := h (Nat.succ_pos _)
    simp only [Nat.add_sub_cancel] at this
    simp only [trimN]
    rw [if_neg]
    intro e
    rw [e] at this
    exact this rfl

theorem c_trim (w₀ : World) (h : AHeap) (v : AVal) (bs : List UInt8) (hb : IsB w₀ h v bs) (hl : bs.length ≤ 140737488355328) : ACall Try.prog w₀ 15 [v] h (FreshB h (bs.take (trimN bs bs.length))) := by
  refine acall_intro (n := 23) (rs := [.tmp 2]) Try.func15 rfl rfl rfl rfl (Nat.le_of_ble_eq_true rfl) ?_
  simp only [initSlots]
  -- region 0  chars.go:117
  refine awp_rseq [0] (by rfl) fun K hK => ?_
  simp (decide := true) only [aOps_nil, ev, absV, absS, putD, Slots.put, Slots.get, Slots.keep, if_true, if_false, List.contains_cons, List.contains_nil, true_and, and_true, ↓ap_assign, pop_assign, hb.len Try.underlying25, hb.apI Try.underlying25 sz5, hb.agI Try.underlying25 sz5, hb.apLd ag5, hb.agLd ag5, hb.eqnil Try.underlying25, hb.nenil Try.underlying25, hb.conv Try.underlying25 Try.underlying9 Try.underlying5]
  repeat (with_reducible refine And.intro ?_ ?_; · first | trivial | omega | (intro hg; simp only [Bool.and_eq_true, Bool.or_eq_true, Bool.not_eq_true', Bool.and_eq_false_iff, Bool.or_eq_false_iff, Bool.not_eq_false', decide_eq_true_eq, decide_eq_false_iff_not, eqNil] at hg; omega))
  apply hK; clear hK K
  -- region 1  chars.go:118
  refine awp_rseq [0, 3] (by rfl) fun K hK => ?_
  simp (decide := true) only [aOps_nil, ev, absV, absS, putD, Slots.put, Slots.get, Slots.keep, if_true, if_false, List.contains_cons, List.contains_nil, true_and, and_true, ↓ap_move, pop_move, ↓ap_len, pop_len, pLen_slice Try.underlying25, pLen_nil Try.underlying25, ↓ap_assign, pop_assign, hb.len Try.underlying25, hb.apI Try.underlying25 sz5, hb.agI Try.underlying25 sz5, hb.apLd ag5, hb.agLd ag5, hb.eqnil Try.underlying25, hb.nenil Try.underlying25, hb.conv Try.underlying25 Try.underlying9 Try.underlying5]
  repeat (with_reducible refine And.intro ?_ ?_; · first | trivial | omega | (intro hg; simp only [Bool.and_eq_true, Bool.or_eq_true, Bool.not_eq_true', Bool.and_eq_false_iff, Bool.or_eq_false_iff, Bool.not_eq_false', decide_eq_true_eq, decide_eq_false_iff_not, eqNil] at hg; omega))
  apply hK; clear hK K
  refine awp_seq ?_
  refine awp_block ?_
  refine awp_loopG [0, 3] (fun n : Nat => [(0, v), (3, .int .i64 n)]) (fun n : Nat => h) (fun n : Nat => n ≤ bs.length ∧ trimN bs bs.length = trimN bs n) (fun n : Nat => n) bs.length rfl (Sub.refl _) ⟨Nat.le_refl _, rfl⟩ ?_
  rintro n ⟨hn1, hn2⟩
  refine awp_seq ?_
  -- region 2  chars.go:119
  refine awp_rseq [0, 3, 15] (by rfl) fun K hK => ?_
  simp (decide := true) only [aOps_nil, ev, absV, absS, putD, Slots.put, Slots.get, Slots.keep, if_true, if_false, List.contains_cons, List.contains_nil, true_and, and_true, ↓ap_move, pop_move, ↓ap_binOp, pop_binOp, pBinX_int, pI_gtr, ↓ag_move, agP, agQ_some, gv, nthDst, gKnown_bool, gKnown_cond, guardB_cond, guardB_bool_true, guardB_bool_false, cv_cv, implies_true, Bool.not_not, decide_true, decide_false, Bool.not_false, Bool.not_true, condV_true, condV_false, forall_const, Bool.and_true, Bool.and_false, Bool.true_and, Bool.false_and, Bool.or_true, Bool.or_false, Bool.true_or, Bool.false_or, ↓ag_binOp, cv_binl, cv_binr, cp_binl, cp_binr, pI_sub, ↓ag_indexAddrL, apL_mk, agQL_some, agL_mk, agL_il1, agL_il2, agL_il3, agL_il4, agL_ir1, agL_ir2, agL_ir3, agL_ir4, pIndexAddr_slice Try.underlying25 sz5, cv_iaddrl, cv_iaddrr, cp_iaddrl, cp_iaddrr, ↓ag_loadL, agL_ld1, agL_ld2, agL_ld3, agL_ld4, pLoad_one ag5, cv_load, cp_load, pI_eql, ↓ap_pick, pop_pick, pPick_bool, pickV_cond_l, pickV_cond_r, pickV_cond_rn, cp_nest1, cp_nest2, cp_nest3, cp_nest4, pickV_and, pickV_or, hb.len Try.underlying25, hb.apI Try.underlying25 sz5, hb.agI Try.underlying25 sz5, hb.apLd ag5, hb.agLd ag5, hb.eqnil Try.underlying25, hb.nenil Try.underlying25, hb.conv Try.underlying25 Try.underlying9 Try.underlying5]
  try simp (disch := omega) only [wrap_i64, wrap_u8]
  repeat (with_reducible refine And.intro ?_ ?_; · first | trivial | omega | (intro hg; simp only [Bool.and_eq_true, Bool.or_eq_true, Bool.not_eq_true', Bool.and_eq_false_iff, Bool.or_eq_false_iff, Bool.not_eq_false', decide_eq_true_eq, decide_eq_false_iff_not, eqNil] at hg; omega))
  apply hK; clear hK K
  refine awp_cond (b := _) rfl (fun hb1 => ?_) (fun hb1 => ?_)
  · try simp only [decide_eq_true_eq, decide_eq_false_iff_not, Bool.not_eq_true', Bool.not_eq_false', Bool.and_eq_true, Bool.and_eq_false_iff, Bool.or_eq_true, Bool.or_eq_false_iff, Bool.true_eq, Bool.false_eq, reduceCtorEq] at hb1
    refine awp_skip ?_
    change Awp _ _ _ _ _ _ _
    refine awp_block ?_
    -- region 3  chars.go:120
    refine awp_r [0, 3] (by rfl) ?_
    simp (decide := true) only [aOps_nil, ev, absV, absS, putD, Slots.put, Slots.get, Slots.keep, if_true, if_false, List.contains_cons, List.contains_nil, true_and, and_true, ↓ap_move, pop_move, ↓ap_binOp, pop_binOp, pBinX_int, pI_sub, ↓ap_assign, pop_assign, hb.len Try.underlying25, hb.apI Try.underlying25 sz5, hb.agI Try.underlying25 sz5, hb.apLd ag5, hb.agLd ag5, hb.eqnil Try.underlying25, hb.nenil Try.underlying25, hb.conv Try.underlying25 Try.underlying9 Try.underlying5]
    try simp (disch := omega) only [wrap_i64, wrap_u8]
    repeat (with_reducible refine And.intro ?_ ?_; · first | trivial | omega | (intro hg; simp only [Bool.and_eq_true, Bool.or_eq_true, Bool.not_eq_true', Bool.and_eq_false_iff, Bool.or_eq_false_iff, Bool.not_eq_false', decide_eq_true_eq, decide_eq_false_iff_not, eqNil] at hg; omega))
    try simp only [thenA_normal, inBlockA_normal]
    refine ⟨n - 1, ?_, Sub.refl _, ⟨by omega, ?_⟩, by omega⟩
    · have e : (n : Int) - 1 = ((n - 1 : Nat) : Int) := by omega
      rw [e]; rfl
    · rw [hn2, trimN_space bs n hb1.1 (by have := hb1.2; have e : ((n : Int) - 1).toNat = n - 1 := by omega
                                          rw [e] at this; exact this)]
  · try simp only [decide_eq_true_eq, decide_eq_false_iff_not, Bool.not_eq_true', Bool.not_eq_false', Bool.and_eq_true, Bool.and_eq_false_iff, Bool.or_eq_true, Bool.or_eq_false_iff, Bool.true_eq, Bool.false_eq, reduceCtorEq] at hb1
    have hn3 : trimN bs bs.length = n := by
      rw [hn2]
      refine trimN_stop bs n fun hn => ?_
      rcases hb1 with hb1 | hb1
      · omega
      · have e : ((n : Int) - 1).toNat = n - 1 := by omega
        rw [e] at hb1; exact hb1
    have hsub : IsB w₀ h (subV v 0 n) (bs.take n) := by have := hb.sub (i := 0) (j := n) (by omega) hn1; simpa using this
    refine awp_exit ?_
    change Awp _ _ _ _ _ _ _
    -- region 4  chars.go:122
    refine awp_rseq [2] (by rfl) fun K hK => ?_
    simp (decide := true) only [aOps_nil, ev, absV, absS, putD, Slots.put, Slots.get, Slots.keep, if_true, if_false, List.contains_cons, List.contains_nil, true_and, and_true, ↓ap_move, pop_move, ↓ap_slice, pop_slice, evO, pSlice_ex Try.underlying25 sz5, pSlice_gr Try.underlying25 sz5, pSlice_ex3 Try.underlying25 sz5, pSlice_gr3 Try.underlying25 sz5, pSliceX_nil Try.underlying25 sz5 none none rfl rfl, pSliceE, pSliceG, pSliceE3, bndA_none, bndA_int, hb.len Try.underlying25, hb.apI Try.underlying25 sz5, hb.agI Try.underlying25 sz5, hb.apLd ag5, hb.agLd ag5, hb.eqnil Try.underlying25, hb.nenil Try.underlying25, hb.conv Try.underlying25 Try.underlying9 Try.underlying5, hb.slice Try.underlying25 sz5 none (some (.int .i64 n)) (l := 0) (r := n) rfl rfl (by omega) (by omega) (by omega), Int.toNat_zero, Int.toNat_natCast]
    repeat (with_reducible refine And.intro ?_ ?_; · first | trivial | omega | (intro hg; simp only [Bool.and_eq_true, Bool.or_eq_true, Bool.not_eq_true', Bool.and_eq_false_iff, Bool.or_eq_false_iff, Bool.not_eq_false', decide_eq_true_eq, decide_eq_false_iff_not, eqNil] at hg; omega))
    refine aOps_call (by rfl) (by rfl) (c_clone w₀ _ _ _ hsub (by simp; omega)) fun x4q3 h4q3 hx4q3 => ?_
    refine aOps_call (by rfl) (by rfl) (c_clip w₀ h _ _ _ hx4q3) fun x4q4 h4q4 hx4q4 => ?_
    simp (decide := true) only [aOps_nil, ev, absV, absS, putD, Slots.put, Slots.get, Slots.keep, if_true, if_false, List.contains_cons, List.contains_nil, true_and, and_true, ↓ap_assign, pop_assign, hb.len Try.underlying25, hb.apI Try.underlying25 sz5, hb.agI Try.underlying25 sz5, hb.apLd ag5, hb.agLd ag5, hb.eqnil Try.underlying25, hb.nenil Try.underlying25, hb.conv Try.underlying25 Try.underlying9 Try.underlying5, hb.slice Try.underlying25 sz5 none (some (.int .i64 n)) (l := 0) (r := n) rfl rfl (by omega) (by omega) (by omega), Int.toNat_zero, Int.toNat_natCast]
    repeat (with_reducible refine And.intro ?_ ?_; · first | trivial | omega | (intro hg; simp only [Bool.and_eq_true, Bool.or_eq_true, Bool.not_eq_true', Bool.and_eq_false_iff, Bool.or_eq_false_iff, Bool.not_eq_false', decide_eq_true_eq, decide_eq_false_iff_not, eqNil] at hg; omega))
    apply hK; clear hK K
    refine awp_ret ?_
    try simp only [thenA_ret, inBlockA_ret]
    refine retA_ret _ (Sub.refl _) (resPre_tmp (resPre_nil)) ?_
    simp (decide := true) only [aOps_nil, ev, absV, absS, putD, Slots.put, Slots.get, Slots.keep, if_true, if_false, List.contains_cons, List.contains_nil, true_and, and_true, resOf_one, hb.len Try.underlying25, hb.apI Try.underlying25 sz5, hb.agI Try.underlying25 sz5, hb.apLd ag5, hb.agLd ag5, hb.eqnil Try.underlying25, hb.nenil Try.underlying25, hb.conv Try.underlying25 Try.underlying9 Try.underlying5]
    rw [hn3]; exact hx4q4
end Go.Proofs.Ytmnlmfiokbnhhaa
