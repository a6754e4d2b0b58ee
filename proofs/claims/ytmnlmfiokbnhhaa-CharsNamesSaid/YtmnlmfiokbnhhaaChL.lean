/-
  The walk of the law CharsNames.
  Conditions: none.
-/
import Derived.Test.YtmnlmfiokbnhhaaChJ
set_option linter.unusedSimpArgs false
set_option linter.unusedVariables false
namespace Go.Proofs.Ytmnlmfiokbnhhaa
open Go.AM
open Go.Proofs
set_option maxRecDepth 100000

def digP (b : UInt8) : Bool := decide (48 ≤ (b.toNat : Int)) && decide ((b.toNat : Int) ≤ 57)
def letP (b : UInt8) : Bool := decide (65 ≤ (b.toNat : Int)) && decide ((b.toNat : Int) ≤ 90)
def priP (b : UInt8) : Bool := decide (32 ≤ (b.toNat : Int)) && decide ((b.toNat : Int) ≤ 126)
def rigP (n i : Nat) (b : UInt8) : Bool := digP b || letP b || (decide ((b.toNat : Int) = 45) && decide (0 < i) && decide (i + 1 < n))
/-- How many of the first bytes fulfil a condition. -/
def cntU (p : UInt8 → Bool) (s : List UInt8) : Nat → Nat
  | 0 => 0
  | i + 1 => cntU p s i + if p (s.getD i 0) then 1 else 0
/-- All of the first bytes fulfil a condition. -/
def allU (p : Nat → UInt8 → Bool) (s : List UInt8) : Nat → Bool
  | 0 => true
  | i + 1 => allU p s i && p i (s.getD i 0)

theorem cntU_take (p : UInt8 → Bool) (s : List UInt8) : ∀ i, i ≤ s.length → cntU p s i = (s.take i).countP p
  | 0, _ => by simp [cntU]
  | i + 1, hi => by
    have hi' : i < s.length := by omega
    have e : s.getD i 0 = s[i] := by simp [List.getD, List.getElem?_eq_getElem hi']
    rw [cntU, cntU_take p s i (by omega), e, List.take_add_one, List.getElem?_eq_getElem hi']
    simp only [Option.toList, List.countP_append, List.countP_singleton]
theorem allU_iff (p : Nat → UInt8 → Bool) (s : List UInt8) : ∀ n, allU p s n = true ↔ ∀ j, j < n → p j (s.getD j 0) = true
  | 0 => by simp [allU]
  | n + 1 => by
    simp only [allU, Bool.and_eq_true, allU_iff p s n]
    constructor
    · rintro ⟨h1, h2⟩ j hj
      rcases Nat.lt_or_ge j n with h | h
      · exact h1 j h
      · have : j = n := by omega
        subst this; exact h2
    · exact fun h => ⟨fun j hj => h j (by omega), h n (by omega)⟩
theorem all_getD (p : UInt8 → Bool) (s : List UInt8) : s.all p = true ↔ ∀ j, j < s.length → p (s.getD j 0) = true := by
  rw [List.all_eq_true]
  constructor
  · intro h j hj
    have e : s.getD j 0 = s[j] := by simp [List.getD, List.getElem?_eq_getElem hj]
    rw [e]; exact h _ (List.getElem_mem hj)
  · intro h b hb
    obtain ⟨j, hj, e⟩ := List.mem_iff_getElem.1 hb
    have := h j hj
    have e' : s.getD j 0 = s[j] := by simp [List.getD, List.getElem?_eq_getElem hj]
    rw [e', e] at this; exact this

theorem names_digits (s : List UInt8) : (!decide (s = []) && s.all digP) = (decide (0 < (cntU digP s s.length : Int)) && decide ((cntU digP s s.length : Int) = s.length)) := by
  rw [cntU_take _ _ _ (Nat.le_refl _), List.take_length, Bool.eq_iff_iff]
  have h1 : List.countP digP s = s.length ↔ ∀ a ∈ s, digP a = true := List.countP_eq_length
  simp only [Bool.and_eq_true, Bool.not_eq_true', decide_eq_false_iff_not, decide_eq_true_eq, List.all_eq_true]
  constructor
  · rintro ⟨h2, h3⟩
    have := h1.2 h3
    have := List.length_pos_iff.2 h2
    omega
  · rintro ⟨h2, h3⟩
    refine ⟨fun e => ?_, h1.1 (by omega)⟩
    subst e; simp at h2
theorem names_printable (s : List UInt8) : s.all priP = allU (fun _ => priP) s s.length := by
  rw [Bool.eq_iff_iff, all_getD, allU_iff]
theorem names_name (s : List UInt8) : nameB s = (allU (rigP s.length) s s.length && decide (0 < (cntU letP s s.length : Int)) && decide ((s.length : Int) ≤ 30)) := by
  rw [cntU_take _ _ _ (Nat.le_refl _), List.take_length, Bool.eq_iff_iff]
  simp only [Bool.and_eq_true, allU_iff, decide_eq_true_eq]
  have hn : nameB s = true ↔ (s ≠ [] ∧ ¬ 30 < s.length ∧ ¬ ((s.getD 0 0).toNat : Int) = 45 ∧ ¬ ((s.getD (s.length - 1) 0).toNat : Int) = 45) ∧
      (∀ j, j < s.length → (digP (s.getD j 0) || letP (s.getD j 0) || decide (((s.getD j 0).toNat : Int) = 45)) = true) ∧ ¬ (∀ a ∈ s, letP a = false) := by
    have e0 : ((s.length : Int) - 1).toNat = s.length - 1 := by omega
    have e1 := all_getD (fun b => digP b || letP b || decide ((b.toNat : Int) = 45)) s
    have e2 : (!(s.all fun b => !(letP b))) = true ↔ ¬ (∀ a ∈ s, letP a = false) := by
      rw [Bool.not_eq_true', ← Bool.not_eq_true, List.all_eq_true]
      simp only [Bool.not_eq_true']
    have e3 : ((30 : Int) < s.length) = (30 < s.length) := by apply propext; omega
    have e4 : nameB s = (!(decide (s = []) || decide ((30 : Int) < s.length) || decide (((s.getD (Int.toNat 0) 0).toNat : Int) = 45) || decide (((s.getD ((s.length : Int) - 1).toNat 0).toNat : Int) = 45)) && ((s.all fun b => digP b || letP b || decide ((b.toNat : Int) = 45)) && !(s.all fun b => !(letP b)))) := rfl
    rw [e4, e0, Bool.and_eq_true, Bool.and_eq_true, e1, e2]
    simp only [Bool.not_eq_true', Bool.or_eq_false_iff, decide_eq_false_iff_not, Int.toNat_zero, e3, and_assoc, ne_eq]
  rw [hn]
  have hc : 0 < List.countP letP s ↔ ∃ a ∈ s, letP a = true := List.countP_pos_iff
  constructor
  · rintro ⟨⟨h1, h2, h3, h4⟩, h5, h6⟩
    have hl := List.length_pos_iff.2 h1
    refine ⟨⟨fun j hj => ?_, ?_⟩, by omega⟩
    · have := h5 j hj
      simp only [rigP, Bool.or_eq_true, Bool.and_eq_true, decide_eq_true_eq] at this ⊢
      rcases this with h | h
      · exact .inl h
      · refine .inr ⟨⟨h, ?_⟩, ?_⟩
        · rcases Nat.eq_zero_or_pos j with e | e
          · subst e; exact absurd h h3
          · exact e
        · rcases Nat.lt_or_ge (j + 1) s.length with e | e
          · exact e
          · have : j = s.length - 1 := by omega
            subst this; exact absurd h h4
    · have : 0 < List.countP letP s := hc.2 (Classical.byContradiction fun hne => h6 fun a ha => by
        cases e : letP a with
        | false => rfl
        | true => exact absurd ⟨a, ha, e⟩ hne)
      omega
  · rintro ⟨⟨h1, h2⟩, h3⟩
    obtain ⟨a, ha, hal⟩ := hc.1 (by omega)
    have hne : s ≠ [] := fun e => by subst e; cases ha
    have hl := List.length_pos_iff.2 hne
    refine ⟨⟨hne, by omega, fun e => ?_, fun e => ?_⟩, fun j hj => ?_, fun h => by rw [h a ha] at hal; cases hal⟩
    · have := h1 0 hl
      simp only [rigP, digP, letP, Bool.or_eq_true, Bool.and_eq_true, decide_eq_true_eq] at this
      omega
    · have := h1 (s.length - 1) (by omega)
      simp only [rigP, digP, letP, Bool.or_eq_true, Bool.and_eq_true, decide_eq_true_eq] at this
      omega
    · have := h1 j hj
      simp only [rigP, Bool.or_eq_true, Bool.and_eq_true, decide_eq_true_eq] at this ⊢
      rcases this with h | h
      · exact .inl h
      · exact .inr h.1.1

theorem names_step (s : List UInt8) (i : Nat) (d l : Int) (p r : Bool) (t : Slots) (w : Unit) (hi1 : i ≤ s.length) (hi2 : cntU digP s i ≤ i) (hi3 : cntU letP s i ≤ i) (hlt : i < s.length) (h : AHeap)
    (hd : d = (cntU digP s (i + 1) : Int)) (hl : l = (cntU letP s (i + 1) : Int)) (hr : r = allU (rigP s.length) s (i + 1)) (ht : t = [(0, .str s), (3, .int .i64 d), (4, .int .i64 l), (5, .bool p), (6, .bool r), (7, .int .i64 (i + 1))]) (hp : p = allU (fun _ => priP) s (i + 1)) :
    ∃ g' : Nat, t = [(0, .str s), (3, .int .i64 (cntU digP s g')), (4, .int .i64 (cntU letP s g')), (5, .bool (allU (fun _ => priP) s g')), (6, .bool (allU (rigP s.length) s g')), (7, .int .i64 g')] ∧ Sub h h ∧ (g' ≤ s.length ∧ cntU digP s g' ≤ g' ∧ cntU letP s g' ≤ g') ∧ s.length - g' < s.length - i := by
  refine ⟨i + 1, ?_, Sub.refl _, ⟨by omega, ?_, ?_⟩, by omega⟩
  · rw [ht, hd, hl, hr, hp]; rfl
  · simp only [cntU]; split <;> omega
  · simp only [cntU]; split <;> omega

theorem l_CharsNames (w₀ : World) (h : AHeap) (s : List UInt8) (hl : s.length ≤ 9223372036854775807) : ACall Try.prog w₀ 8 [.str s] h (fun v _ => v = .bool true) := by
  refine acall_intro (n := 98) (rs := [.tmp 2]) Try.func8 rfl rfl rfl rfl (Nat.le_of_ble_eq_true rfl) ?_
  simp only [initSlots]
  -- region 0  law.go:36
  refine awp_rseq [0] (by rfl) fun K hK => ?_
  simp (decide := true) only [aOps_nil, ev, absV, absS, putD, Slots.put, Slots.get, Slots.keep, if_true, if_false, List.contains_cons, List.contains_nil, true_and, and_true, ↓ap_assign, pop_assign]
  repeat (with_reducible refine And.intro ?_ ?_; · first | trivial | omega | (intro hg; simp only [Bool.and_eq_true, Bool.or_eq_true, Bool.not_eq_true', Bool.and_eq_false_iff, Bool.or_eq_false_iff, Bool.not_eq_false', decide_eq_true_eq, decide_eq_false_iff_not, eqNil] at hg; omega))
  apply hK; clear hK K
  refine awp_seq ?_
  -- region 1  law.go:37
  refine awp_rseq [0, 11] (by rfl) fun K hK => ?_
  simp (decide := true) only [aOps_nil, ev, absV, absS, putD, Slots.put, Slots.get, Slots.keep, if_true, if_false, List.contains_cons, List.contains_nil, true_and, and_true, ↓ap_move, pop_move, ↓ap_len, pop_len, pLen_str Try.underlying9, ↓ap_binOp, pop_binOp, pBinX_int, pI_gtr]
  repeat (with_reducible refine And.intro ?_ ?_; · first | trivial | omega | (intro hg; simp only [Bool.and_eq_true, Bool.or_eq_true, Bool.not_eq_true', Bool.and_eq_false_iff, Bool.or_eq_false_iff, Bool.not_eq_false', decide_eq_true_eq, decide_eq_false_iff_not, eqNil] at hg; omega))
  apply hK; clear hK K
  refine awp_cond (b := _) rfl (fun hb1 => ?_) (fun hb1 => ?_)
  · try simp only [decide_eq_true_eq, decide_eq_false_iff_not, Bool.not_eq_true', Bool.not_eq_false', Bool.and_eq_true, Bool.and_eq_false_iff, Bool.or_eq_true, Bool.or_eq_false_iff, Bool.true_eq, Bool.false_eq, reduceCtorEq] at hb1
    -- region 2  law.go:38
    refine awp_rseq [2] (by rfl) fun K hK => ?_
    refine aOps_callV (V := .bool true) (by rfl) (by rfl) (c_lives w₀ _) ?_
    simp (decide := true) only [aOps_nil, ev, absV, absS, putD, Slots.put, Slots.get, Slots.keep, if_true, if_false, List.contains_cons, List.contains_nil, true_and, and_true, ↓ap_assign, pop_assign]
    repeat (with_reducible refine And.intro ?_ ?_; · first | trivial | omega | (intro hg; simp only [Bool.and_eq_true, Bool.or_eq_true, Bool.not_eq_true', Bool.and_eq_false_iff, Bool.or_eq_false_iff, Bool.not_eq_false', decide_eq_true_eq, decide_eq_false_iff_not, eqNil] at hg; omega))
    apply hK; clear hK K
    refine awp_ret ?_
    try simp only [thenA_ret, inBlockA_ret]
    refine retA_ret _ (Sub.refl _) (resPre_tmp (resPre_nil)) ?_
    simp (decide := true) only [aOps_nil, ev, absV, absS, putD, Slots.put, Slots.get, Slots.keep, if_true, if_false, List.contains_cons, List.contains_nil, true_and, and_true, resOf_one]
    all_goals first | rfl | exact ⟨rfl, rfl⟩ | (simp (decide := true) only [if_true, if_false, *]; done) | (trace_state; fail)
  · try simp only [decide_eq_true_eq, decide_eq_false_iff_not, Bool.not_eq_true', Bool.not_eq_false', Bool.and_eq_true, Bool.and_eq_false_iff, Bool.or_eq_true, Bool.or_eq_false_iff, Bool.true_eq, Bool.false_eq, reduceCtorEq] at hb1
    refine awp_skip ?_
    change Awp _ _ _ _ _ _ _
    -- region 3  law.go:40
    refine awp_rseq [0, 3, 4, 5, 6] (by rfl) fun K hK => ?_
    simp (decide := true) only [aOps_nil, ev, absV, absS, putD, Slots.put, Slots.get, Slots.keep, if_true, if_false, List.contains_cons, List.contains_nil, true_and, and_true, ↓ap_assign, pop_assign]
    repeat (with_reducible refine And.intro ?_ ?_; · first | trivial | omega | (intro hg; simp only [Bool.and_eq_true, Bool.or_eq_true, Bool.not_eq_true', Bool.and_eq_false_iff, Bool.or_eq_false_iff, Bool.not_eq_false', decide_eq_true_eq, decide_eq_false_iff_not, eqNil] at hg; omega))
    apply hK; clear hK K
    refine awp_seq ?_
    -- region 4  law.go:41
    refine awp_rseq [0, 3, 4, 5, 6, 7] (by rfl) fun K hK => ?_
    simp (decide := true) only [aOps_nil, ev, absV, absS, putD, Slots.put, Slots.get, Slots.keep, if_true, if_false, List.contains_cons, List.contains_nil, true_and, and_true, ↓ap_assign, pop_assign]
    repeat (with_reducible refine And.intro ?_ ?_; · first | trivial | omega | (intro hg; simp only [Bool.and_eq_true, Bool.or_eq_true, Bool.not_eq_true', Bool.and_eq_false_iff, Bool.or_eq_false_iff, Bool.not_eq_false', decide_eq_true_eq, decide_eq_false_iff_not, eqNil] at hg; omega))
    apply hK; clear hK K
    refine awp_block ?_
    refine awp_loopG [0, 3, 4, 5, 6, 7] (fun i : Nat => [(0, .str s), (3, .int .i64 (cntU digP s i)), (4, .int .i64 (cntU letP s i)), (5, .bool (allU (fun _ => priP) s i)), (6, .bool (allU (rigP s.length) s i)), (7, .int .i64 i)]) (fun i : Nat => h) (fun i : Nat => i ≤ s.length ∧ cntU digP s i ≤ i ∧ cntU letP s i ≤ i) (fun i : Nat => s.length - i) 0 rfl (Sub.refl _) ⟨Nat.zero_le _, Nat.le_refl _, Nat.le_refl _⟩ ?_
    rintro i ⟨hi1, hi2, hi3⟩
    refine awp_seq ?_
    -- region 5  law.go:41
    refine awp_rseq [0, 3, 4, 5, 6, 7, 16] (by rfl) fun K hK => ?_
    simp (decide := true) only [aOps_nil, ev, absV, absS, putD, Slots.put, Slots.get, Slots.keep, if_true, if_false, List.contains_cons, List.contains_nil, true_and, and_true, ↓ap_move, pop_move, ↓ap_len, pop_len, pLen_str Try.underlying9, ↓ap_binOp, pop_binOp, pBinX_int, pI_lss]
    repeat (with_reducible refine And.intro ?_ ?_; · first | trivial | omega | (intro hg; simp only [Bool.and_eq_true, Bool.or_eq_true, Bool.not_eq_true', Bool.and_eq_false_iff, Bool.or_eq_false_iff, Bool.not_eq_false', decide_eq_true_eq, decide_eq_false_iff_not, eqNil] at hg; omega))
    apply hK; clear hK K
    refine awp_cond (b := _) rfl (fun hb2 => ?_) (fun hb2 => ?_)
    · try simp only [decide_eq_true_eq, decide_eq_false_iff_not, Bool.not_eq_true', Bool.not_eq_false', Bool.and_eq_true, Bool.and_eq_false_iff, Bool.or_eq_true, Bool.or_eq_false_iff, Bool.true_eq, Bool.false_eq, reduceCtorEq] at hb2
      refine awp_skip ?_
      change Awp _ _ _ _ _ _ _
      refine awp_seq ?_
      refine awp_block ?_
      -- region 7  law.go:42
      refine awp_rseq [0, 3, 4, 5, 6, 7, 8] (by rfl) fun K hK => ?_
      simp (decide := true) only [aOps_nil, ev, absV, absS, putD, Slots.put, Slots.get, Slots.keep, if_true, if_false, List.contains_cons, List.contains_nil, true_and, and_true, ↓ap_move, pop_move, ↓ap_index, pop_index, pIndex_str Try.underlying9, ↓ap_assign, pop_assign]
      repeat (with_reducible refine And.intro ?_ ?_; · first | trivial | omega | (intro hg; simp only [Bool.and_eq_true, Bool.or_eq_true, Bool.not_eq_true', Bool.and_eq_false_iff, Bool.or_eq_false_iff, Bool.not_eq_false', decide_eq_true_eq, decide_eq_false_iff_not, eqNil] at hg; omega))
      apply hK; clear hK K
      refine awp_seq ?_
      refine awp_block ?_
      -- region 9  law.go:44
      refine awp_rseq [0, 3, 4, 5, 6, 7, 8, 22] (by rfl) fun K hK => ?_
      simp (decide := true) only [aOps_nil, ev, absV, absS, putD, Slots.put, Slots.get, Slots.keep, if_true, if_false, List.contains_cons, List.contains_nil, true_and, and_true, ↓ap_move, pop_move, ↓ap_binOp, pop_binOp, pBinX_int, pI_geq, ↓ag_move, agP, agQ_some, gv, nthDst, gKnown_bool, gKnown_cond, guardB_cond, guardB_bool_true, guardB_bool_false, cv_cv, implies_true, Bool.not_not, decide_true, decide_false, Bool.not_false, Bool.not_true, condV_true, condV_false, forall_const, Bool.and_true, Bool.and_false, Bool.true_and, Bool.false_and, Bool.or_true, Bool.or_false, Bool.true_or, Bool.false_or, ↓ag_binOp, cv_binl, cv_binr, cp_binl, cp_binr, pI_leq, ↓ap_pick, pop_pick, pPick_bool, pickV_cond_l, pickV_cond_r, pickV_cond_rn, cp_nest1, cp_nest2, cp_nest3, cp_nest4, pickV_and, pickV_or, ↓ap_assign, pop_assign]
      repeat (with_reducible refine And.intro ?_ ?_; · first | trivial | omega | (intro hg; simp only [Bool.and_eq_true, Bool.or_eq_true, Bool.not_eq_true', Bool.and_eq_false_iff, Bool.or_eq_false_iff, Bool.not_eq_false', decide_eq_true_eq, decide_eq_false_iff_not, eqNil] at hg; omega))
      apply hK; clear hK K
      refine awp_cond (b := _) rfl (fun hb3 => ?_) (fun hb3 => ?_)
      · try simp only [decide_eq_true_eq, decide_eq_false_iff_not, Bool.not_eq_true', Bool.not_eq_false', Bool.and_eq_true, Bool.and_eq_false_iff, Bool.or_eq_true, Bool.or_eq_false_iff, Bool.true_eq, Bool.false_eq, reduceCtorEq] at hb3
        -- region 10  law.go:45
        refine awp_r [0, 3, 4, 5, 6, 7, 8] (by rfl) ?_
        simp (decide := true) only [aOps_nil, ev, absV, absS, putD, Slots.put, Slots.get, Slots.keep, if_true, if_false, List.contains_cons, List.contains_nil, true_and, and_true, ↓ap_move, pop_move, ↓ap_binOp, pop_binOp, pBinX_int, pI_add, ↓ap_assign, pop_assign]
        try simp (disch := omega) only [wrap_i64, wrap_u8]
        repeat (with_reducible refine And.intro ?_ ?_; · first | trivial | omega | (intro hg; simp only [Bool.and_eq_true, Bool.or_eq_true, Bool.not_eq_true', Bool.and_eq_false_iff, Bool.or_eq_false_iff, Bool.not_eq_false', decide_eq_true_eq, decide_eq_false_iff_not, eqNil] at hg; omega))
        change Awp _ _ _ _ _ _ _
        -- region 14  law.go:52
        refine awp_r [0, 3, 4, 5, 6, 7] (by rfl) ?_
        simp (decide := true) only [aOps_nil, ev, absV, absS, putD, Slots.put, Slots.get, Slots.keep, if_true, if_false, List.contains_cons, List.contains_nil, true_and, and_true, ↓ap_move, pop_move, ↓ag_move, agP, agQ_some, gv, nthDst, gKnown_bool, gKnown_cond, guardB_cond, guardB_bool_true, guardB_bool_false, cv_cv, implies_true, Bool.not_not, decide_true, decide_false, Bool.not_false, Bool.not_true, condV_true, condV_false, forall_const, Bool.and_true, Bool.and_false, Bool.true_and, Bool.false_and, Bool.or_true, Bool.or_false, Bool.true_or, Bool.false_or, ↓ag_binOp, pop_binOp, cv_binl, cv_binr, cp_binl, cp_binr, pBinX_int, pI_geq, ↓ap_pick, pop_pick, pPick_bool, pickV_cond_l, pickV_cond_r, pickV_cond_rn, cp_nest1, cp_nest2, cp_nest3, cp_nest4, pickV_and, pickV_or, pI_leq, ↓ap_assign, pop_assign]
        repeat (with_reducible refine And.intro ?_ ?_; · first | trivial | omega | (intro hg; simp only [Bool.and_eq_true, Bool.or_eq_true, Bool.not_eq_true', Bool.and_eq_false_iff, Bool.or_eq_false_iff, Bool.not_eq_false', decide_eq_true_eq, decide_eq_false_iff_not, eqNil] at hg; omega))
        change Awp _ _ _ _ _ _ _
        -- region 6  law.go:41
        refine awp_r [0, 3, 4, 5, 6, 7] (by rfl) ?_
        simp (decide := true) only [aOps_nil, ev, absV, absS, putD, Slots.put, Slots.get, Slots.keep, if_true, if_false, List.contains_cons, List.contains_nil, true_and, and_true, ↓ap_move, pop_move, ↓ap_binOp, pop_binOp, pBinX_int, pI_add, ↓ap_assign, pop_assign]
        try simp (disch := omega) only [wrap_i64, wrap_u8]
        repeat (with_reducible refine And.intro ?_ ?_; · first | trivial | omega | (intro hg; simp only [Bool.and_eq_true, Bool.or_eq_true, Bool.not_eq_true', Bool.and_eq_false_iff, Bool.or_eq_false_iff, Bool.not_eq_false', decide_eq_true_eq, decide_eq_false_iff_not, eqNil] at hg; omega))
        try simp only [thenA_normal, inBlockA_normal]
        have hx : (i : Int).toNat = i := Int.toNat_natCast i
        simp only [hx] at *
        generalize hb : s.getD i 0 = b at *
        have hd : digP b = decide (48 ≤ (b.toNat : Int) ∧ (b.toNat : Int) ≤ 57) := by simp [digP]
        have he : letP b = decide (65 ≤ (b.toNat : Int) ∧ (b.toNat : Int) ≤ 90) := by simp [letP]
        have hr : rigP s.length i b = decide ((48 ≤ (b.toNat : Int) ∧ (b.toNat : Int) ≤ 57) ∨ (65 ≤ (b.toNat : Int) ∧ (b.toNat : Int) ≤ 90) ∨ ((b.toNat : Int) = 45 ∧ 0 < i ∧ i + 1 < s.length)) := by
          rw [Bool.eq_iff_iff]
          simp only [rigP, digP, letP, Bool.or_eq_true, Bool.and_eq_true, decide_eq_true_eq]
          omega
        refine names_step s i _ _ _ _ _ () hi1 hi2 hi3 (by omega) h ?_ ?_ ?_ rfl ?_
        · simp only [cntU, hb, hd]
          first | rw [decide_eq_true (by omega)] | rw [decide_eq_false (by omega)]
          simp
        · simp only [cntU, hb, he]
          first | rw [decide_eq_true (by omega)] | rw [decide_eq_false (by omega)]
          simp
        · simp only [allU, hb, hr]
          first | rw [decide_eq_true (by omega)] | rw [decide_eq_false (by omega)]
          simp
        · simp only [allU, hb, priP, Bool.and_assoc]
      · try simp only [decide_eq_true_eq, decide_eq_false_iff_not, Bool.not_eq_true', Bool.not_eq_false', Bool.and_eq_true, Bool.and_eq_false_iff, Bool.or_eq_true, Bool.or_eq_false_iff, Bool.true_eq, Bool.false_eq, reduceCtorEq] at hb3
        -- region 11  law.go:46
        refine awp_rseq [0, 3, 4, 5, 6, 7, 8, 31] (by rfl) fun K hK => ?_
        simp (decide := true) only [aOps_nil, ev, absV, absS, putD, Slots.put, Slots.get, Slots.keep, if_true, if_false, List.contains_cons, List.contains_nil, true_and, and_true, ↓ap_move, pop_move, ↓ap_binOp, pop_binOp, pBinX_int, pI_geq, ↓ag_move, agP, agQ_some, gv, nthDst, gKnown_bool, gKnown_cond, guardB_cond, guardB_bool_true, guardB_bool_false, cv_cv, implies_true, Bool.not_not, decide_true, decide_false, Bool.not_false, Bool.not_true, condV_true, condV_false, forall_const, Bool.and_true, Bool.and_false, Bool.true_and, Bool.false_and, Bool.or_true, Bool.or_false, Bool.true_or, Bool.false_or, ↓ag_binOp, cv_binl, cv_binr, cp_binl, cp_binr, pI_leq, ↓ap_pick, pop_pick, pPick_bool, pickV_cond_l, pickV_cond_r, pickV_cond_rn, cp_nest1, cp_nest2, cp_nest3, cp_nest4, pickV_and, pickV_or, ↓ap_assign, pop_assign]
        repeat (with_reducible refine And.intro ?_ ?_; · first | trivial | omega | (intro hg; simp only [Bool.and_eq_true, Bool.or_eq_true, Bool.not_eq_true', Bool.and_eq_false_iff, Bool.or_eq_false_iff, Bool.not_eq_false', decide_eq_true_eq, decide_eq_false_iff_not, eqNil] at hg; omega))
        apply hK; clear hK K
        refine awp_cond (b := _) rfl (fun hb4 => ?_) (fun hb4 => ?_)
        · try simp only [decide_eq_true_eq, decide_eq_false_iff_not, Bool.not_eq_true', Bool.not_eq_false', Bool.and_eq_true, Bool.and_eq_false_iff, Bool.or_eq_true, Bool.or_eq_false_iff, Bool.true_eq, Bool.false_eq, reduceCtorEq] at hb4
          -- region 12  law.go:47
          refine awp_r [0, 3, 4, 5, 6, 7, 8] (by rfl) ?_
          simp (decide := true) only [aOps_nil, ev, absV, absS, putD, Slots.put, Slots.get, Slots.keep, if_true, if_false, List.contains_cons, List.contains_nil, true_and, and_true, ↓ap_move, pop_move, ↓ap_binOp, pop_binOp, pBinX_int, pI_add, ↓ap_assign, pop_assign]
          try simp (disch := omega) only [wrap_i64, wrap_u8]
          repeat (with_reducible refine And.intro ?_ ?_; · first | trivial | omega | (intro hg; simp only [Bool.and_eq_true, Bool.or_eq_true, Bool.not_eq_true', Bool.and_eq_false_iff, Bool.or_eq_false_iff, Bool.not_eq_false', decide_eq_true_eq, decide_eq_false_iff_not, eqNil] at hg; omega))
          change Awp _ _ _ _ _ _ _
          -- region 14  law.go:52
          refine awp_r [0, 3, 4, 5, 6, 7] (by rfl) ?_
          simp (decide := true) only [aOps_nil, ev, absV, absS, putD, Slots.put, Slots.get, Slots.keep, if_true, if_false, List.contains_cons, List.contains_nil, true_and, and_true, ↓ap_move, pop_move, ↓ag_move, agP, agQ_some, gv, nthDst, gKnown_bool, gKnown_cond, guardB_cond, guardB_bool_true, guardB_bool_false, cv_cv, implies_true, Bool.not_not, decide_true, decide_false, Bool.not_false, Bool.not_true, condV_true, condV_false, forall_const, Bool.and_true, Bool.and_false, Bool.true_and, Bool.false_and, Bool.or_true, Bool.or_false, Bool.true_or, Bool.false_or, ↓ag_binOp, pop_binOp, cv_binl, cv_binr, cp_binl, cp_binr, pBinX_int, pI_geq, ↓ap_pick, pop_pick, pPick_bool, pickV_cond_l, pickV_cond_r, pickV_cond_rn, cp_nest1, cp_nest2, cp_nest3, cp_nest4, pickV_and, pickV_or, pI_leq, ↓ap_assign, pop_assign]
          repeat (with_reducible refine And.intro ?_ ?_; · first | trivial | omega | (intro hg; simp only [Bool.and_eq_true, Bool.or_eq_true, Bool.not_eq_true', Bool.and_eq_false_iff, Bool.or_eq_false_iff, Bool.not_eq_false', decide_eq_true_eq, decide_eq_false_iff_not, eqNil] at hg; omega))
          change Awp _ _ _ _ _ _ _
          -- region 6  law.go:41
          refine awp_r [0, 3, 4, 5, 6, 7] (by rfl) ?_
          simp (decide := true) only [aOps_nil, ev, absV, absS, putD, Slots.put, Slots.get, Slots.keep, if_true, if_false, List.contains_cons, List.contains_nil, true_and, and_true, ↓ap_move, pop_move, ↓ap_binOp, pop_binOp, pBinX_int, pI_add, ↓ap_assign, pop_assign]
          try simp (disch := omega) only [wrap_i64, wrap_u8]
          repeat (with_reducible refine And.intro ?_ ?_; · first | trivial | omega | (intro hg; simp only [Bool.and_eq_true, Bool.or_eq_true, Bool.not_eq_true', Bool.and_eq_false_iff, Bool.or_eq_false_iff, Bool.not_eq_false', decide_eq_true_eq, decide_eq_false_iff_not, eqNil] at hg; omega))
          try simp only [thenA_normal, inBlockA_normal]
          have hx : (i : Int).toNat = i := Int.toNat_natCast i
          simp only [hx] at *
          generalize hb : s.getD i 0 = b at *
          have hd : digP b = decide (48 ≤ (b.toNat : Int) ∧ (b.toNat : Int) ≤ 57) := by simp [digP]
          have he : letP b = decide (65 ≤ (b.toNat : Int) ∧ (b.toNat : Int) ≤ 90) := by simp [letP]
          have hr : rigP s.length i b = decide ((48 ≤ (b.toNat : Int) ∧ (b.toNat : Int) ≤ 57) ∨ (65 ≤ (b.toNat : Int) ∧ (b.toNat : Int) ≤ 90) ∨ ((b.toNat : Int) = 45 ∧ 0 < i ∧ i + 1 < s.length)) := by
            rw [Bool.eq_iff_iff]
            simp only [rigP, digP, letP, Bool.or_eq_true, Bool.and_eq_true, decide_eq_true_eq]
            omega
          refine names_step s i _ _ _ _ _ () hi1 hi2 hi3 (by omega) h ?_ ?_ ?_ rfl ?_
          · simp only [cntU, hb, hd]
            first | rw [decide_eq_true (by omega)] | rw [decide_eq_false (by omega)]
            simp
          · simp only [cntU, hb, he]
            first | rw [decide_eq_true (by omega)] | rw [decide_eq_false (by omega)]
            simp
          · simp only [allU, hb, hr]
            first | rw [decide_eq_true (by omega)] | rw [decide_eq_false (by omega)]
            simp
          · simp only [allU, hb, priP, Bool.and_assoc]
        · try simp only [decide_eq_true_eq, decide_eq_false_iff_not, Bool.not_eq_true', Bool.not_eq_false', Bool.and_eq_true, Bool.and_eq_false_iff, Bool.or_eq_true, Bool.or_eq_false_iff, Bool.true_eq, Bool.false_eq, reduceCtorEq] at hb4
          -- region 13  law.go:48
          refine awp_rseq [0, 3, 4, 5, 6, 7, 8, 40] (by rfl) fun K hK => ?_
          simp (decide := true) only [aOps_nil, ev, absV, absS, putD, Slots.put, Slots.get, Slots.keep, if_true, if_false, List.contains_cons, List.contains_nil, true_and, and_true, ↓ap_move, pop_move, ↓ap_binOp, pop_binOp, pBinX_int, pI_eql, ↓ag_move, agP, agQ_some, gv, nthDst, gKnown_bool, gKnown_cond, guardB_cond, guardB_bool_true, guardB_bool_false, cv_cv, implies_true, Bool.not_not, decide_true, decide_false, Bool.not_false, Bool.not_true, condV_true, condV_false, forall_const, Bool.and_true, Bool.and_false, Bool.true_and, Bool.false_and, Bool.or_true, Bool.or_false, Bool.true_or, Bool.false_or, ↓ag_binOp, cv_binl, cv_binr, cp_binl, cp_binr, pI_gtr, ↓ap_pick, pop_pick, pPick_bool, pickV_cond_l, pickV_cond_r, pickV_cond_rn, cp_nest1, cp_nest2, cp_nest3, cp_nest4, pickV_and, pickV_or, ↓ag_len, pop_len, pLen_str Try.underlying9, cv_len, cp_len, pI_sub, pI_lss, ↓ap_assign, pop_assign]
          try simp (disch := omega) only [wrap_i64, wrap_u8]
          repeat (with_reducible refine And.intro ?_ ?_; · first | trivial | omega | (intro hg; simp only [Bool.and_eq_true, Bool.or_eq_true, Bool.not_eq_true', Bool.and_eq_false_iff, Bool.or_eq_false_iff, Bool.not_eq_false', decide_eq_true_eq, decide_eq_false_iff_not, eqNil] at hg; omega))
          apply hK; clear hK K
          refine awp_cond (b := _) rfl (fun hb5 => ?_) (fun hb5 => ?_)
          · try simp only [decide_eq_true_eq, decide_eq_false_iff_not, Bool.not_eq_true', Bool.not_eq_false', Bool.and_eq_true, Bool.and_eq_false_iff, Bool.or_eq_true, Bool.or_eq_false_iff, Bool.true_eq, Bool.false_eq, reduceCtorEq] at hb5
            refine awp_skip ?_
            change Awp _ _ _ _ _ _ _
            -- region 14  law.go:52
            refine awp_r [0, 3, 4, 5, 6, 7] (by rfl) ?_
            simp (decide := true) only [aOps_nil, ev, absV, absS, putD, Slots.put, Slots.get, Slots.keep, if_true, if_false, List.contains_cons, List.contains_nil, true_and, and_true, ↓ap_move, pop_move, ↓ag_move, agP, agQ_some, gv, nthDst, gKnown_bool, gKnown_cond, guardB_cond, guardB_bool_true, guardB_bool_false, cv_cv, implies_true, Bool.not_not, decide_true, decide_false, Bool.not_false, Bool.not_true, condV_true, condV_false, forall_const, Bool.and_true, Bool.and_false, Bool.true_and, Bool.false_and, Bool.or_true, Bool.or_false, Bool.true_or, Bool.false_or, ↓ag_binOp, pop_binOp, cv_binl, cv_binr, cp_binl, cp_binr, pBinX_int, pI_geq, ↓ap_pick, pop_pick, pPick_bool, pickV_cond_l, pickV_cond_r, pickV_cond_rn, cp_nest1, cp_nest2, cp_nest3, cp_nest4, pickV_and, pickV_or, pI_leq, ↓ap_assign, pop_assign]
            repeat (with_reducible refine And.intro ?_ ?_; · first | trivial | omega | (intro hg; simp only [Bool.and_eq_true, Bool.or_eq_true, Bool.not_eq_true', Bool.and_eq_false_iff, Bool.or_eq_false_iff, Bool.not_eq_false', decide_eq_true_eq, decide_eq_false_iff_not, eqNil] at hg; omega))
            change Awp _ _ _ _ _ _ _
            -- region 6  law.go:41
            refine awp_r [0, 3, 4, 5, 6, 7] (by rfl) ?_
            simp (decide := true) only [aOps_nil, ev, absV, absS, putD, Slots.put, Slots.get, Slots.keep, if_true, if_false, List.contains_cons, List.contains_nil, true_and, and_true, ↓ap_move, pop_move, ↓ap_binOp, pop_binOp, pBinX_int, pI_add, ↓ap_assign, pop_assign]
            try simp (disch := omega) only [wrap_i64, wrap_u8]
            repeat (with_reducible refine And.intro ?_ ?_; · first | trivial | omega | (intro hg; simp only [Bool.and_eq_true, Bool.or_eq_true, Bool.not_eq_true', Bool.and_eq_false_iff, Bool.or_eq_false_iff, Bool.not_eq_false', decide_eq_true_eq, decide_eq_false_iff_not, eqNil] at hg; omega))
            try simp only [thenA_normal, inBlockA_normal]
            have hx : (i : Int).toNat = i := Int.toNat_natCast i
            simp only [hx] at *
            generalize hb : s.getD i 0 = b at *
            have hd : digP b = decide (48 ≤ (b.toNat : Int) ∧ (b.toNat : Int) ≤ 57) := by simp [digP]
            have he : letP b = decide (65 ≤ (b.toNat : Int) ∧ (b.toNat : Int) ≤ 90) := by simp [letP]
            have hr : rigP s.length i b = decide ((48 ≤ (b.toNat : Int) ∧ (b.toNat : Int) ≤ 57) ∨ (65 ≤ (b.toNat : Int) ∧ (b.toNat : Int) ≤ 90) ∨ ((b.toNat : Int) = 45 ∧ 0 < i ∧ i + 1 < s.length)) := by
              rw [Bool.eq_iff_iff]
              simp only [rigP, digP, letP, Bool.or_eq_true, Bool.and_eq_true, decide_eq_true_eq]
              omega
            refine names_step s i _ _ _ _ _ () hi1 hi2 hi3 (by omega) h ?_ ?_ ?_ rfl ?_
            · simp only [cntU, hb, hd]
              first | rw [decide_eq_true (by omega)] | rw [decide_eq_false (by omega)]
              simp
            · simp only [cntU, hb, he]
              first | rw [decide_eq_true (by omega)] | rw [decide_eq_false (by omega)]
              simp
            · simp only [allU, hb, hr]
              first | rw [decide_eq_true (by omega)] | rw [decide_eq_false (by omega)]
              simp
            · simp only [allU, hb, priP, Bool.and_assoc]
          · try simp only [decide_eq_true_eq, decide_eq_false_iff_not, Bool.not_eq_true', Bool.not_eq_false', Bool.and_eq_true, Bool.and_eq_false_iff, Bool.or_eq_true, Bool.or_eq_false_iff, Bool.true_eq, Bool.false_eq, reduceCtorEq] at hb5
            -- region 8  law.go:50
            refine awp_r [0, 3, 4, 5, 6, 7, 8] (by rfl) ?_
            simp (decide := true) only [aOps_nil, ev, absV, absS, putD, Slots.put, Slots.get, Slots.keep, if_true, if_false, List.contains_cons, List.contains_nil, true_and, and_true, ↓ap_assign, pop_assign]
            repeat (with_reducible refine And.intro ?_ ?_; · first | trivial | omega | (intro hg; simp only [Bool.and_eq_true, Bool.or_eq_true, Bool.not_eq_true', Bool.and_eq_false_iff, Bool.or_eq_false_iff, Bool.not_eq_false', decide_eq_true_eq, decide_eq_false_iff_not, eqNil] at hg; omega))
            change Awp _ _ _ _ _ _ _
            -- region 14  law.go:52
            refine awp_r [0, 3, 4, 5, 6, 7] (by rfl) ?_
            simp (decide := true) only [aOps_nil, ev, absV, absS, putD, Slots.put, Slots.get, Slots.keep, if_true, if_false, List.contains_cons, List.contains_nil, true_and, and_true, ↓ap_move, pop_move, ↓ag_move, agP, agQ_some, gv, nthDst, gKnown_bool, gKnown_cond, guardB_cond, guardB_bool_true, guardB_bool_false, cv_cv, implies_true, Bool.not_not, decide_true, decide_false, Bool.not_false, Bool.not_true, condV_true, condV_false, forall_const, Bool.and_true, Bool.and_false, Bool.true_and, Bool.false_and, Bool.or_true, Bool.or_false, Bool.true_or, Bool.false_or, ↓ag_binOp, pop_binOp, cv_binl, cv_binr, cp_binl, cp_binr, pBinX_int, pI_geq, ↓ap_pick, pop_pick, pPick_bool, pickV_cond_l, pickV_cond_r, pickV_cond_rn, cp_nest1, cp_nest2, cp_nest3, cp_nest4, pickV_and, pickV_or, pI_leq, ↓ap_assign, pop_assign]
            repeat (with_reducible refine And.intro ?_ ?_; · first | trivial | omega | (intro hg; simp only [Bool.and_eq_true, Bool.or_eq_true, Bool.not_eq_true', Bool.and_eq_false_iff, Bool.or_eq_false_iff, Bool.not_eq_false', decide_eq_true_eq, decide_eq_false_iff_not, eqNil] at hg; omega))
            change Awp _ _ _ _ _ _ _
            -- region 6  law.go:41
            refine awp_r [0, 3, 4, 5, 6, 7] (by rfl) ?_
            simp (decide := true) only [aOps_nil, ev, absV, absS, putD, Slots.put, Slots.get, Slots.keep, if_true, if_false, List.contains_cons, List.contains_nil, true_and, and_true, ↓ap_move, pop_move, ↓ap_binOp, pop_binOp, pBinX_int, pI_add, ↓ap_assign, pop_assign]
            try simp (disch := omega) only [wrap_i64, wrap_u8]
            repeat (with_reducible refine And.intro ?_ ?_; · first | trivial | omega | (intro hg; simp only [Bool.and_eq_true, Bool.or_eq_true, Bool.not_eq_true', Bool.and_eq_false_iff, Bool.or_eq_false_iff, Bool.not_eq_false', decide_eq_true_eq, decide_eq_false_iff_not, eqNil] at hg; omega))
            try simp only [thenA_normal, inBlockA_normal]
            have hx : (i : Int).toNat = i := Int.toNat_natCast i
            simp only [hx] at *
            generalize hb : s.getD i 0 = b at *
            have hd : digP b = decide (48 ≤ (b.toNat : Int) ∧ (b.toNat : Int) ≤ 57) := by simp [digP]
            have he : letP b = decide (65 ≤ (b.toNat : Int) ∧ (b.toNat : Int) ≤ 90) := by simp [letP]
            have hr : rigP s.length i b = decide ((48 ≤ (b.toNat : Int) ∧ (b.toNat : Int) ≤ 57) ∨ (65 ≤ (b.toNat : Int) ∧ (b.toNat : Int) ≤ 90) ∨ ((b.toNat : Int) = 45 ∧ 0 < i ∧ i + 1 < s.length)) := by
              rw [Bool.eq_iff_iff]
              simp only [rigP, digP, letP, Bool.or_eq_true, Bool.and_eq_true, decide_eq_true_eq]
              omega
            refine names_step s i _ _ _ _ _ () hi1 hi2 hi3 (by omega) h ?_ ?_ ?_ rfl ?_
            · simp only [cntU, hb, hd]
              first | rw [decide_eq_true (by omega)] | rw [decide_eq_false (by omega)]
              simp
            · simp only [cntU, hb, he]
              first | rw [decide_eq_true (by omega)] | rw [decide_eq_false (by omega)]
              simp
            · simp only [allU, hb, hr]
              first | rw [decide_eq_true (by omega)] | rw [decide_eq_false (by omega)]
              simp
            · simp only [allU, hb, priP, Bool.and_assoc]
    · try simp only [decide_eq_true_eq, decide_eq_false_iff_not, Bool.not_eq_true', Bool.not_eq_false', Bool.and_eq_true, Bool.and_eq_false_iff, Bool.or_eq_true, Bool.or_eq_false_iff, Bool.true_eq, Bool.false_eq, reduceCtorEq] at hb2
      refine awp_exit ?_
      change Awp _ _ _ _ _ _ _
      -- region 15  law.go:54
      refine awp_rseq [2] (by rfl) fun K hK => ?_
      simp (decide := true) only [aOps_nil, ev, absV, absS, putD, Slots.put, Slots.get, Slots.keep, if_true, if_false, List.contains_cons, List.contains_nil, true_and, and_true, ↓ap_move, pop_move]
      repeat (with_reducible refine And.intro ?_ ?_; · first | trivial | omega | (intro hg; simp only [Bool.and_eq_true, Bool.or_eq_true, Bool.not_eq_true', Bool.and_eq_false_iff, Bool.or_eq_false_iff, Bool.not_eq_false', decide_eq_true_eq, decide_eq_false_iff_not, eqNil] at hg; omega))
      refine aOps_callV (V := .bool (!decide (s = []) && s.all digP)) (by rfl) (by rfl) (c_isdigits w₀ _ s hl) ?_
      simp (decide := true) only [aOps_nil, ev, absV, absS, putD, Slots.put, Slots.get, Slots.keep, if_true, if_false, List.contains_cons, List.contains_nil, true_and, and_true, ↓ap_move, pop_move, ↓ap_binOp, pop_binOp, pBinX_int, pI_gtr, ↓ag_move, agP, agQ_some, gv, nthDst, gKnown_bool, gKnown_cond, guardB_cond, guardB_bool_true, guardB_bool_false, cv_cv, implies_true, Bool.not_not, decide_true, decide_false, Bool.not_false, Bool.not_true, condV_true, condV_false, forall_const, Bool.and_true, Bool.and_false, Bool.true_and, Bool.false_and, Bool.or_true, Bool.or_false, Bool.true_or, Bool.false_or, ↓ag_len, pop_len, pLen_str Try.underlying9, cv_len, cp_len, ↓ag_binOp, cv_binl, cv_binr, cp_binl, cp_binr, pI_eql, ↓ap_pick, pop_pick, pPick_bool, pickV_cond_l, pickV_cond_r, pickV_cond_rn, cp_nest1, cp_nest2, cp_nest3, cp_nest4, pickV_and, pickV_or, pBinX_beq, Try.underlying4]
      repeat (with_reducible refine And.intro ?_ ?_; · first | trivial | omega | (intro hg; simp only [Bool.and_eq_true, Bool.or_eq_true, Bool.not_eq_true', Bool.and_eq_false_iff, Bool.or_eq_false_iff, Bool.not_eq_false', decide_eq_true_eq, decide_eq_false_iff_not, eqNil] at hg; omega))
      first
      | (refine aOps_yes (by rfl) ?_; refine aOps_callV (V := .bool (nameB s)) (by rfl) (by rfl) (c_isname w₀ _ s hl) ?_)
      | (refine aOps_gcall (V := .bool (nameB s)) (f := _) (cap := _) (xs := _) rfl (fun hg => ⟨rfl, ?_⟩) (fun hg => c_isname w₀ _ s hl) ?_; · (simp (decide := true) only [gv, nthDst, Slots.get, if_true, if_false, guardB_bool_true, guardB_bool_false, guardB_cond, Bool.not_not] at hg; simp (decide := true) only [evs, ev, Slots.get, if_true, if_false, hg, condV_true, List.append_nil, List.map_cons, List.map_nil]))
      simp (decide := true) only [aOps_nil, ev, absV, absS, putD, Slots.put, Slots.get, Slots.keep, if_true, if_false, List.contains_cons, List.contains_nil, true_and, and_true, gv, nthDst, guardB_bool_true, guardB_bool_false, guardB_cond, ↓ag_move, pop_move, agP, agQ_some, gKnown_bool, gKnown_cond, cv_cv, implies_true, Bool.not_not, decide_true, decide_false, Bool.not_false, Bool.not_true, condV_true, condV_false, forall_const, Bool.and_true, Bool.and_false, Bool.true_and, Bool.false_and, Bool.or_true, Bool.or_false, Bool.true_or, Bool.false_or, ↓ag_binOp, pop_binOp, cv_binl, cv_binr, cp_binl, cp_binr, pBinX_int, pI_gtr, ↓ag_pick, pop_pick, pPick_bool, pickV_cond_l, pickV_cond_r, pickV_cond_rn, cp_nest1, cp_nest2, cp_nest3, cp_nest4, pickV_and, pickV_or, cv_pick, cp_pick, ↓ag_len, pop_len, pLen_str Try.underlying9, cv_len, cp_len, pI_leq, pBinX_beq, Try.underlying4, ↓ap_pick, ↓ap_move]
      repeat (with_reducible refine And.intro ?_ ?_; · first | trivial | omega | (intro hg; simp only [Bool.and_eq_true, Bool.or_eq_true, Bool.not_eq_true', Bool.and_eq_false_iff, Bool.or_eq_false_iff, Bool.not_eq_false', decide_eq_true_eq, decide_eq_false_iff_not, eqNil] at hg; omega))
      first
      | (refine aOps_yes (by rfl) ?_; refine aOps_callV (V := .bool (s.all priP)) (by rfl) (by rfl) (c_printable w₀ _ s hl) ?_)
      | (refine aOps_gcall (V := .bool (s.all priP)) (f := _) (cap := _) (xs := _) rfl (fun hg => ⟨rfl, ?_⟩) (fun hg => c_printable w₀ _ s hl) ?_; · (simp (decide := true) only [gv, nthDst, Slots.get, if_true, if_false, guardB_bool_true, guardB_bool_false, guardB_cond, Bool.not_not] at hg; simp (decide := true) only [evs, ev, Slots.get, if_true, if_false, hg, condV_true, List.append_nil, List.map_cons, List.map_nil]))
      simp (decide := true) only [aOps_nil, ev, absV, absS, putD, Slots.put, Slots.get, Slots.keep, if_true, if_false, List.contains_cons, List.contains_nil, true_and, and_true, gv, nthDst, guardB_bool_true, guardB_bool_false, guardB_cond, ↓ag_move, pop_move, agP, agQ_some, gKnown_bool, gKnown_cond, cv_cv, implies_true, Bool.not_not, decide_true, decide_false, Bool.not_false, Bool.not_true, condV_true, condV_false, forall_const, Bool.and_true, Bool.and_false, Bool.true_and, Bool.false_and, Bool.or_true, Bool.or_false, Bool.true_or, Bool.false_or, ↓ag_binOp, pop_binOp, cv_binl, cv_binr, cp_binl, cp_binr, pBinX_beq, Try.underlying4, ↓ap_pick, pop_pick, pPick_bool, pickV_cond_l, pickV_cond_r, pickV_cond_rn, cp_nest1, cp_nest2, cp_nest3, cp_nest4, pickV_and, pickV_or, ↓ap_move]
      repeat (with_reducible refine And.intro ?_ ?_; · first | trivial | omega | (intro hg; simp only [Bool.and_eq_true, Bool.or_eq_true, Bool.not_eq_true', Bool.and_eq_false_iff, Bool.or_eq_false_iff, Bool.not_eq_false', decide_eq_true_eq, decide_eq_false_iff_not, eqNil] at hg; omega))
      first
      | (refine aOps_yes (by rfl) ?_; refine aOps_callV (V := .bool true) (by rfl) (by rfl) (c_lives w₀ _) ?_)
      | (refine aOps_gcall (V := .bool true) (f := _) (cap := _) (xs := _) rfl (fun hg => ⟨rfl, ?_⟩) (fun hg => c_lives w₀ _) ?_; · (simp (decide := true) only [gv, nthDst, Slots.get, if_true, if_false, guardB_bool_true, guardB_bool_false, guardB_cond, Bool.not_not] at hg; simp (decide := true) only [evs, ev, Slots.get, if_true, if_false, hg, condV_true, List.append_nil, List.map_cons, List.map_nil]))
      simp (decide := true) only [aOps_nil, ev, absV, absS, putD, Slots.put, Slots.get, Slots.keep, if_true, if_false, List.contains_cons, List.contains_nil, true_and, and_true, gv, nthDst, guardB_bool_true, guardB_bool_false, guardB_cond, ↓ap_pick, pop_pick, pPick_bool, pickV_cond_l, pickV_cond_r, pickV_cond_rn, cp_nest1, cp_nest2, cp_nest3, cp_nest4, pickV_and, pickV_or, ↓ap_assign, pop_assign]
      repeat (with_reducible refine And.intro ?_ ?_; · first | trivial | omega | (intro hg; simp only [Bool.and_eq_true, Bool.or_eq_true, Bool.not_eq_true', Bool.and_eq_false_iff, Bool.or_eq_false_iff, Bool.not_eq_false', decide_eq_true_eq, decide_eq_false_iff_not, eqNil] at hg; omega))
      apply hK; clear hK K
      refine awp_ret ?_
      try simp only [thenA_ret, inBlockA_ret]
      refine retA_ret _ (Sub.refl _) (resPre_tmp (resPre_nil)) ?_
      simp (decide := true) only [aOps_nil, ev, absV, absS, putD, Slots.put, Slots.get, Slots.keep, if_true, if_false, List.contains_cons, List.contains_nil, true_and, and_true, resOf_one]
      have hn : i = s.length := by omega
      subst hn
      simp only [names_digits, names_printable, names_name, beq_self_eq_true, Bool.and_true, Bool.true_and]
end Go.Proofs.Ytmnlmfiokbnhhaa
