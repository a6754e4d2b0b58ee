/-
  The walk of the law CharsFit.
  Conditions: none.
-/
import Derived.Test.YtmnlmfiokbnhhaaChK
set_option linter.unusedSimpArgs false
set_option linter.unusedVariables false
namespace Go.Proofs.Ytmnlmfiokbnhhaa
open Go.AM
open Go.Proofs
set_option maxRecDepth 100000

/-- A text of which the first bytes are turned. -/
def mapTo (f : UInt8 → UInt8) (s : List UInt8) (i : Nat) : List UInt8 := (s.take i).map f ++ s.drop i
theorem mapTo_length (f : UInt8 → UInt8) (s : List UInt8) (i : Nat) : (mapTo f s i).length = s.length := by simp [mapTo]; omega
theorem mapTo_get (f : UInt8 → UInt8) (s : List UInt8) (i : Nat) (hi : i < s.length) : (mapTo f s i).getD i 0 = s.getD i 0 := by
  have : (List.map f (List.take i s)).length = i := by simp <;> omega
  simp only [mapTo, List.getD]
  rw [List.getElem?_append_right (by omega), this, List.getElem?_drop]
  simp
theorem mapTo_succ (f : UInt8 → UInt8) (s : List UInt8) (i : Nat) (hi : i < s.length) : (mapTo f s i).set i (f (s.getD i 0)) = mapTo f s (i + 1) := by
  have e : (List.map f (List.take i s)).length = i := by simp <;> omega
  have e1 : s.drop i = s[i] :: s.drop (i + 1) := List.drop_eq_getElem_cons hi
  have e2 : s.getD i 0 = s[i] := by simp [List.getD, List.getElem?_eq_getElem hi]
  simp only [mapTo]
  have e3 : (s.drop i).set 0 (f s[i]) = f s[i] :: s.drop (i + 1) := by rw [e1]; rfl
  have e4 : s.take (i + 1) = s.take i ++ [s[i]] := by rw [List.take_add_one, List.getElem?_eq_getElem hi]; rfl
  rw [List.set_append_right _ _ (by omega), e, Nat.sub_self, e2, e3, e4, List.map_append, List.append_assoc]
  rfl
def incU (b : UInt8) : UInt8 := UInt8.ofNat (IntKind.u8.wrap ((b.toNat : Int) + 1)).toNat
theorem incU_bounds : ∀ b : UInt8, 0 ≤ IntKind.u8.wrap ((b.toNat : Int) + 1) ∧ IntKind.u8.wrap ((b.toNat : Int) + 1) ≤ 255 := u8_all (by decide +kernel)

theorem fitB_length (bs : List UInt8) (n : Nat) (left : Bool) : (fitB bs n left).length = n := by
  cases left <;> simp [fitB, setAt_length]
theorem setAt_get : ∀ (vs cs : List UInt8) (o i : Nat) (_ : o + vs.length ≤ cs.length), (setAt cs o vs).getD i 0 = if o ≤ i ∧ i < o + vs.length then vs.getD (i - o) 0 else cs.getD i 0
  | [], cs, o, i, _ => by
    simp only [setAt]
    rw [if_neg (by simp <;> omega)]
  | v :: vs, cs, o, i, hl => by
    simp only [List.length_cons] at hl
    rw [setAt, setAt_get vs (cs.set o v) (o + 1) i (by simp <;> omega)]
    by_cases h1 : i = o
    · subst h1
      rw [if_neg (by omega), if_pos (by simp <;> omega)]
      simp [List.getD, List.getElem?_set, show i < cs.length by omega]
    · by_cases h2 : o + 1 ≤ i ∧ i < o + 1 + vs.length
      · rw [if_pos h2, if_pos (by simp <;> omega)]
        have e : i - o = (i - (o + 1)) + 1 := by omega
        rw [e, List.getD_cons_succ]
      · rw [if_neg h2, if_neg (by simp <;> omega)]
        simp only [List.getD]
        rw [List.getElem?_set_ne (Ne.symm h1)]
theorem rep_get (n i : Nat) (hi : i < n) : (List.replicate n (32 : UInt8)).getD i 0 = 32 := by simp [List.getD, List.getElem?_replicate, hi]
theorem getD_drop (s : List UInt8) (k i : Nat) : (s.drop k).getD i 0 = s.getD (k + i) 0 := by simp [List.getD, List.getElem?_drop]
theorem getD_take (s : List UInt8) (k i : Nat) (h : i < k) : (s.take k).getD i 0 = s.getD i 0 := by simp [List.getD, List.getElem?_take, h]

theorem fitB_right (bs : List UInt8) (n i : Nat) (hi : i < n) : (fitB bs n false).getD i 0 = if i < bs.length then bs.getD i 0 else 32 := by
  simp only [fitB, cond_false]
  rw [setAt_get _ _ _ _ (by simp <;> omega)]
  by_cases h : i < bs.length
  · rw [if_pos (by simp <;> omega), if_pos h, Nat.sub_zero, getD_take _ _ _ hi]
  · rw [if_neg (by simp <;> omega), if_neg h, rep_get _ _ hi]
theorem fitB_left (bs : List UInt8) (n i : Nat) (hi : i < n) : (fitB bs n true).getD i 0 = if n ≤ bs.length + i then bs.getD (bs.length + i - n) 0 else 32 := by
  simp only [fitB, cond_true]
  rw [setAt_get _ _ _ _ (by simp <;> omega)]
  by_cases h : n ≤ bs.length + i
  · rw [if_pos (by simp <;> omega), if_pos h, getD_drop]
    congr 1; omega
  · rw [if_neg (by simp <;> omega), if_neg h, rep_get _ _ hi]

theorem l_FitOk (w₀ : World) (h : AHeap) (v : AVal) (bs : List UInt8) (hb : IsB w₀ h v bs) (hl : bs.length ≤ 9223372036854775807) (N : Nat) (h1 : N ≤ 1048576) (left : Bool) :
    ACall Try.prog w₀ 6 [v, .int .i64 N, .bool left] h (fun x _ => x = .bool true) := by
  refine acall_intro (n := 116) (rs := [.tmp 6]) Try.func6 rfl rfl rfl rfl (Nat.le_of_ble_eq_true rfl) ?_
  simp only [initSlots]
  -- region 0  law.go:139
  refine awp_rseq [0, 1, 2] (by rfl) fun K hK => ?_
  simp (decide := true) only [aOps_nil, ev, absV, absS, putD, Slots.put, Slots.get, Slots.keep, if_true, if_false, List.contains_cons, List.contains_nil, true_and, and_true, ↓ap_assign, pop_assign, hb.len Try.underlying25, hb.apI Try.underlying25 sz5, hb.agI Try.underlying25 sz5, hb.apLd ag5, hb.agLd ag5, hb.eqnil Try.underlying25, hb.nenil Try.underlying25, hb.conv Try.underlying25 Try.underlying9 Try.underlying5]
  repeat (with_reducible refine And.intro ?_ ?_; · first | trivial | omega | (intro hg; simp only [Bool.and_eq_true, Bool.or_eq_true, Bool.not_eq_true', Bool.and_eq_false_iff, Bool.or_eq_false_iff, Bool.not_eq_false', decide_eq_true_eq, decide_eq_false_iff_not, eqNil] at hg; omega))
  apply hK; clear hK K
  refine awp_seq ?_
  -- region 1  law.go:140
  refine awp_rseq [0, 1, 2, 23] (by rfl) fun K hK => ?_
  simp (decide := true) only [aOps_nil, ev, absV, absS, putD, Slots.put, Slots.get, Slots.keep, if_true, if_false, List.contains_cons, List.contains_nil, true_and, and_true, ↓ap_move, pop_move, ↓ap_len, pop_len, pLen_slice Try.underlying25, pLen_nil Try.underlying25, ↓ap_binOp, pop_binOp, pBinX_int, pI_gtr, ↓ag_move, agP, agQ_some, gv, nthDst, gKnown_bool, gKnown_cond, guardB_cond, guardB_bool_true, guardB_bool_false, cv_cv, implies_true, Bool.not_not, decide_true, decide_false, Bool.not_false, Bool.not_true, condV_true, condV_false, forall_const, Bool.and_true, Bool.and_false, Bool.true_and, Bool.false_and, Bool.or_true, Bool.or_false, Bool.true_or, Bool.false_or, ↓ag_binOp, cv_binl, cv_binr, cp_binl, cp_binr, pI_leq, ↓ag_pick, pop_pick, pPick_bool, pickV_cond_l, pickV_cond_r, pickV_cond_rn, cp_nest1, cp_nest2, cp_nest3, cp_nest4, pickV_and, pickV_or, cv_pick, cp_pick, ↓ap_pick, hb.len Try.underlying25, hb.apI Try.underlying25 sz5, hb.agI Try.underlying25 sz5, hb.apLd ag5, hb.agLd ag5, hb.eqnil Try.underlying25, hb.nenil Try.underlying25, hb.conv Try.underlying25 Try.underlying9 Try.underlying5]
  repeat (with_reducible refine And.intro ?_ ?_; · first | trivial | omega | (intro hg; simp only [Bool.and_eq_true, Bool.or_eq_true, Bool.not_eq_true', Bool.and_eq_false_iff, Bool.or_eq_false_iff, Bool.not_eq_false', decide_eq_true_eq, decide_eq_false_iff_not, eqNil] at hg; omega))
  apply hK; clear hK K
  refine awp_cond (b := _) rfl (fun hb1 => ?_) (fun hb1 => ?_)
  · try simp only [decide_eq_true_eq, decide_eq_false_iff_not, Bool.not_eq_true', Bool.not_eq_false', Bool.and_eq_true, Bool.and_eq_false_iff, Bool.or_eq_true, Bool.or_eq_false_iff, Bool.true_eq, Bool.false_eq, reduceCtorEq] at hb1
    -- region 2  law.go:141
    refine awp_rseq [6] (by rfl) fun K hK => ?_
    refine aOps_callV (V := .bool true) (by rfl) (by rfl) (c_lives w₀ _) ?_
    simp (decide := true) only [aOps_nil, ev, absV, absS, putD, Slots.put, Slots.get, Slots.keep, if_true, if_false, List.contains_cons, List.contains_nil, true_and, and_true, ↓ap_assign, pop_assign, hb.len Try.underlying25, hb.apI Try.underlying25 sz5, hb.agI Try.underlying25 sz5, hb.apLd ag5, hb.agLd ag5, hb.eqnil Try.underlying25, hb.nenil Try.underlying25, hb.conv Try.underlying25 Try.underlying9 Try.underlying5]
    repeat (with_reducible refine And.intro ?_ ?_; · first | trivial | omega | (intro hg; simp only [Bool.and_eq_true, Bool.or_eq_true, Bool.not_eq_true', Bool.and_eq_false_iff, Bool.or_eq_false_iff, Bool.not_eq_false', decide_eq_true_eq, decide_eq_false_iff_not, eqNil] at hg; omega))
    apply hK; clear hK K
    refine awp_ret ?_
    try simp only [thenA_ret, inBlockA_ret]
    refine retA_ret _ (Sub.refl _) (resPre_tmp (resPre_nil)) ?_
    simp (decide := true) only [aOps_nil, ev, absV, absS, putD, Slots.put, Slots.get, Slots.keep, if_true, if_false, List.contains_cons, List.contains_nil, true_and, and_true, resOf_one, hb.len Try.underlying25, hb.apI Try.underlying25 sz5, hb.agI Try.underlying25 sz5, hb.apLd ag5, hb.agLd ag5, hb.eqnil Try.underlying25, hb.nenil Try.underlying25, hb.conv Try.underlying25 Try.underlying9 Try.underlying5]
    all_goals first | rfl | exact ⟨rfl, rfl⟩ | (simp (decide := true) only [if_true, if_false, *]; done) | (trace_state; fail)
  · try simp only [decide_eq_true_eq, decide_eq_false_iff_not, Bool.not_eq_true', Bool.not_eq_false', Bool.and_eq_true, Bool.and_eq_false_iff, Bool.or_eq_true, Bool.or_eq_false_iff, Bool.true_eq, Bool.false_eq, reduceCtorEq] at hb1
    refine awp_skip ?_
    change Awp _ _ _ _ _ _ _
    -- region 3  law.go:143
    refine awp_rseq [0, 1, 2, 7] (by rfl) fun K hK => ?_
    simp (decide := true) only [aOps_nil, ev, absV, absS, putD, Slots.put, Slots.get, Slots.keep, if_true, if_false, List.contains_cons, List.contains_nil, true_and, and_true, ↓ap_move, pop_move, ↓ap_convert _ _ _ (es_str Try.underlying25 Try.underlying9), pop_convert, pConv_nil Try.underlying25 Try.underlying9 Try.underlying5, pConv_bytes Try.underlying25 Try.underlying9 Try.underlying5, ↓ap_assign, pop_assign, hb.len Try.underlying25, hb.apI Try.underlying25 sz5, hb.agI Try.underlying25 sz5, hb.apLd ag5, hb.agLd ag5, hb.eqnil Try.underlying25, hb.nenil Try.underlying25, hb.conv Try.underlying25 Try.underlying9 Try.underlying5]
    try simp (disch := omega) only [wrap_i64, wrap_u8]
    repeat (with_reducible refine And.intro ?_ ?_; · first | trivial | omega | (intro hg; simp only [Bool.and_eq_true, Bool.or_eq_true, Bool.not_eq_true', Bool.and_eq_false_iff, Bool.or_eq_false_iff, Bool.not_eq_false', decide_eq_true_eq, decide_eq_false_iff_not, eqNil] at hg; omega))
    apply hK; clear hK K
    -- region 4  law.go:144
    refine awp_rseq [0, 1, 2, 7, 8, 9] (by rfl) fun K hK => ?_
    simp (decide := true) only [aOps_nil, ev, absV, absS, putD, Slots.put, Slots.get, Slots.keep, if_true, if_false, List.contains_cons, List.contains_nil, true_and, and_true, ↓ap_move, pop_move, hb.len Try.underlying25, hb.apI Try.underlying25 sz5, hb.agI Try.underlying25 sz5, hb.apLd ag5, hb.agLd ag5, hb.eqnil Try.underlying25, hb.nenil Try.underlying25, hb.conv Try.underlying25 Try.underlying9 Try.underlying5]
    repeat (with_reducible refine And.intro ?_ ?_; · first | trivial | omega | (intro hg; simp only [Bool.and_eq_true, Bool.or_eq_true, Bool.not_eq_true', Bool.and_eq_false_iff, Bool.or_eq_false_iff, Bool.not_eq_false', decide_eq_true_eq, decide_eq_false_iff_not, eqNil] at hg; omega))
    refine aOps_call (by rfl) (by rfl) (c_fitOk w₀ _ _ bs N left hb hl (by omega) (by omega)) fun x4q3 h4q3 hx4q3 => ?_
    obtain ⟨k, hk, rfl, rfl⟩ := hx4q3
    rw [Int.toNat_natCast]
    have hB2 := hb.mono (Sub.set (b := ⟨byteCells (fitB bs N left), 0⟩) hk)
    have hF := fitB_length bs N left
    simp (decide := true) only [aOps_nil, ev, absV, absS, putD, Slots.put, Slots.get, Slots.keep, if_true, if_false, List.contains_cons, List.contains_nil, true_and, and_true, ↓ap_move, pop_move, ↓ap_extract, pop_extract, pExt_tuple, List.length_cons, List.length_nil, List.getD_cons_zero, List.getD_cons_succ, ↓ap_assign, pop_assign, hb.len Try.underlying25, hb.apI Try.underlying25 sz5, hb.agI Try.underlying25 sz5, hb.apLd ag5, hb.agLd ag5, hb.eqnil Try.underlying25, hb.nenil Try.underlying25, hb.conv Try.underlying25 Try.underlying9 Try.underlying5]
    repeat (with_reducible refine And.intro ?_ ?_; · first | trivial | omega | (intro hg; simp only [Bool.and_eq_true, Bool.or_eq_true, Bool.not_eq_true', Bool.and_eq_false_iff, Bool.or_eq_false_iff, Bool.not_eq_false', decide_eq_true_eq, decide_eq_false_iff_not, eqNil] at hg; omega))
    apply hK; clear hK K
    refine awp_seq ?_
    -- region 5  law.go:145
    refine awp_rseq [0, 1, 2, 7, 8, 9, 35] (by rfl) fun K hK => ?_
    simp (decide := true) only [aOps_nil, ev, absV, absS, putD, Slots.put, Slots.get, Slots.keep, if_true, if_false, List.contains_cons, List.contains_nil, true_and, and_true, ↓ap_move, pop_move, ↓ap_binOp, pop_binOp, pBinX_int, pI_lss, hB2.len Try.underlying25, hB2.apI Try.underlying25 sz5, hB2.agI Try.underlying25 sz5, hB2.apLd ag5, hB2.agLd ag5, hB2.eqnil Try.underlying25, hB2.nenil Try.underlying25, hB2.conv Try.underlying25 Try.underlying9 Try.underlying5]
    repeat (with_reducible refine And.intro ?_ ?_; · first | trivial | omega | (intro hg; simp only [Bool.and_eq_true, Bool.or_eq_true, Bool.not_eq_true', Bool.and_eq_false_iff, Bool.or_eq_false_iff, Bool.not_eq_false', decide_eq_true_eq, decide_eq_false_iff_not, eqNil] at hg; omega))
    apply hK; clear hK K
    refine awp_cond (b := _) rfl (fun hb2 => ?_) (fun hb2 => ?_)
    · try simp only [decide_eq_true_eq, decide_eq_false_iff_not, Bool.not_eq_true', Bool.not_eq_false', Bool.and_eq_true, Bool.and_eq_false_iff, Bool.or_eq_true, Bool.or_eq_false_iff, Bool.true_eq, Bool.false_eq, reduceCtorEq] at hb2
      omega
    · try simp only [decide_eq_true_eq, decide_eq_false_iff_not, Bool.not_eq_true', Bool.not_eq_false', Bool.and_eq_true, Bool.and_eq_false_iff, Bool.or_eq_true, Bool.or_eq_false_iff, Bool.true_eq, Bool.false_eq, reduceCtorEq] at hb2
      refine awp_skip ?_
      change Awp _ _ _ _ _ _ _
      refine awp_seq ?_
      -- region 7  law.go:148
      refine awp_rseq [0, 1, 2, 7, 8, 9, 47] (by rfl) fun K hK => ?_
      simp (decide := true) only [aOps_nil, ev, absV, absS, putD, Slots.put, Slots.get, Slots.keep, if_true, if_false, List.contains_cons, List.contains_nil, true_and, and_true, ↓ap_move, pop_move, ↓ap_binOp, pop_binOp, pBinX_int, pI_gtr, hB2.len Try.underlying25, hB2.apI Try.underlying25 sz5, hB2.agI Try.underlying25 sz5, hB2.apLd ag5, hB2.agLd ag5, hB2.eqnil Try.underlying25, hB2.nenil Try.underlying25, hB2.conv Try.underlying25 Try.underlying9 Try.underlying5]
      repeat (with_reducible refine And.intro ?_ ?_; · first | trivial | omega | (intro hg; simp only [Bool.and_eq_true, Bool.or_eq_true, Bool.not_eq_true', Bool.and_eq_false_iff, Bool.or_eq_false_iff, Bool.not_eq_false', decide_eq_true_eq, decide_eq_false_iff_not, eqNil] at hg; omega))
      apply hK; clear hK K
      refine awp_cond (b := _) rfl (fun hb3 => ?_) (fun hb3 => ?_)
      · try simp only [decide_eq_true_eq, decide_eq_false_iff_not, Bool.not_eq_true', Bool.not_eq_false', Bool.and_eq_true, Bool.and_eq_false_iff, Bool.or_eq_true, Bool.or_eq_false_iff, Bool.true_eq, Bool.false_eq, reduceCtorEq] at hb3
        omega
      · try simp only [decide_eq_true_eq, decide_eq_false_iff_not, Bool.not_eq_true', Bool.not_eq_false', Bool.and_eq_true, Bool.and_eq_false_iff, Bool.or_eq_true, Bool.or_eq_false_iff, Bool.true_eq, Bool.false_eq, reduceCtorEq] at hb3
        refine awp_skip ?_
        change Awp _ _ _ _ _ _ _
        refine awp_seq ?_
        -- region 9  law.go:151
        refine awp_rseq [0, 1, 2, 7, 8, 71] (by rfl) fun K hK => ?_
        simp (decide := true) only [aOps_nil, ev, absV, absS, putD, Slots.put, Slots.get, Slots.keep, if_true, if_false, List.contains_cons, List.contains_nil, true_and, and_true, ↓ap_move, pop_move, ↓ap_binOp, pop_binOp, pBinX_int, pI_neq, ↓ag_move, agP, agQ_some, gv, nthDst, gKnown_bool, gKnown_cond, guardB_cond, guardB_bool_true, guardB_bool_false, cv_cv, implies_true, Bool.not_not, decide_true, decide_false, Bool.not_false, Bool.not_true, condV_true, condV_false, forall_const, Bool.and_true, Bool.and_false, Bool.true_and, Bool.false_and, Bool.or_true, Bool.or_false, Bool.true_or, Bool.false_or, ↓ag_len, pop_len, pLen_slice Try.underlying25, pLen_nil Try.underlying25, cv_len, cp_len, ↓ag_binOp, cv_binl, cv_binr, cp_binl, cp_binr, ↓ap_pick, pop_pick, pPick_bool, pickV_cond_l, pickV_cond_r, pickV_cond_rn, cp_nest1, cp_nest2, cp_nest3, cp_nest4, pickV_and, pickV_or, ↓ag_cap, pop_cap, pCap_slice Try.underlying25, pCap_nil Try.underlying25, cv_cap, cp_cap, hB2.len Try.underlying25, hB2.apI Try.underlying25 sz5, hB2.agI Try.underlying25 sz5, hB2.apLd ag5, hB2.agLd ag5, hB2.eqnil Try.underlying25, hB2.nenil Try.underlying25, hB2.conv Try.underlying25 Try.underlying9 Try.underlying5]
        repeat (with_reducible refine And.intro ?_ ?_; · first | trivial | omega | (intro hg; simp only [Bool.and_eq_true, Bool.or_eq_true, Bool.not_eq_true', Bool.and_eq_false_iff, Bool.or_eq_false_iff, Bool.not_eq_false', decide_eq_true_eq, decide_eq_false_iff_not, eqNil] at hg; omega))
        apply hK; clear hK K
        refine awp_cond (b := _) rfl (fun hb4 => ?_) (fun hb4 => ?_)
        · simp at hb4
        · try simp only [decide_eq_true_eq, decide_eq_false_iff_not, Bool.not_eq_true', Bool.not_eq_false', Bool.and_eq_true, Bool.and_eq_false_iff, Bool.or_eq_true, Bool.or_eq_false_iff, Bool.true_eq, Bool.false_eq, reduceCtorEq] at hb4
          refine awp_skip ?_
          change Awp _ _ _ _ _ _ _
          refine awp_seq ?_
          -- region 11  law.go:154
          refine awp_rseq [0, 1, 2, 7, 8, 10] (by rfl) fun K hK => ?_
          simp (decide := true) only [aOps_nil, ev, absV, absS, putD, Slots.put, Slots.get, Slots.keep, if_true, if_false, List.contains_cons, List.contains_nil, true_and, and_true, ↓ap_assign, pop_assign, hB2.len Try.underlying25, hB2.apI Try.underlying25 sz5, hB2.agI Try.underlying25 sz5, hB2.apLd ag5, hB2.agLd ag5, hB2.eqnil Try.underlying25, hB2.nenil Try.underlying25, hB2.conv Try.underlying25 Try.underlying9 Try.underlying5]
          repeat (with_reducible refine And.intro ?_ ?_; · first | trivial | omega | (intro hg; simp only [Bool.and_eq_true, Bool.or_eq_true, Bool.not_eq_true', Bool.and_eq_false_iff, Bool.or_eq_false_iff, Bool.not_eq_false', decide_eq_true_eq, decide_eq_false_iff_not, eqNil] at hg; omega))
          apply hK; clear hK K
          refine awp_block ?_
          refine awp_loopG [0, 1, 2, 7, 8, 10] (fun i : Nat => [(0, v), (1, .int .i64 N), (2, .bool left), (7, .str bs), (8, .slice (.own k) 0 N (.exact N)), (10, .int .i64 i)]) (fun i : Nat => h.set k ⟨byteCells (mapTo incU (fitB bs N left) i), 0⟩) (fun i : Nat => i ≤ N) (fun i : Nat => N - i) 0 rfl (Sub.refl _) (Nat.zero_le _) ?_
          rintro i hi1
          have hB2 := hb.mono (Sub.set (b := ⟨byteCells (mapTo incU (fitB bs N left) i), 0⟩) hk)
          have hM := mapTo_length incU (fitB bs N left) i
          refine awp_seq ?_
          -- region 12  law.go:154
          refine awp_rseq [0, 1, 2, 7, 8, 10, 74] (by rfl) fun K hK => ?_
          simp (decide := true) only [aOps_nil, ev, absV, absS, putD, Slots.put, Slots.get, Slots.keep, if_true, if_false, List.contains_cons, List.contains_nil, true_and, and_true, ↓ap_move, pop_move, ↓ap_binOp, pop_binOp, pBinX_int, pI_lss, hB2.len Try.underlying25, hB2.apI Try.underlying25 sz5, hB2.agI Try.underlying25 sz5, hB2.apLd ag5, hB2.agLd ag5, hB2.eqnil Try.underlying25, hB2.nenil Try.underlying25, hB2.conv Try.underlying25 Try.underlying9 Try.underlying5]
          repeat (with_reducible refine And.intro ?_ ?_; · first | trivial | omega | (intro hg; simp only [Bool.and_eq_true, Bool.or_eq_true, Bool.not_eq_true', Bool.and_eq_false_iff, Bool.or_eq_false_iff, Bool.not_eq_false', decide_eq_true_eq, decide_eq_false_iff_not, eqNil] at hg; omega))
          apply hK; clear hK K
          refine awp_cond (b := _) rfl (fun hb5 => ?_) (fun hb5 => ?_)
          · try simp only [decide_eq_true_eq, decide_eq_false_iff_not, Bool.not_eq_true', Bool.not_eq_false', Bool.and_eq_true, Bool.and_eq_false_iff, Bool.or_eq_true, Bool.or_eq_false_iff, Bool.true_eq, Bool.false_eq, reduceCtorEq] at hb5
            refine awp_skip ?_
            change Awp _ _ _ _ _ _ _
            refine awp_seq ?_
            refine awp_block ?_
            -- region 14  law.go:155
            refine awp_rseq [0, 1, 2, 7, 8, 10, 11] (by rfl) fun K hK => ?_
            simp (decide := true) only [aOps_nil, ev, absV, absS, putD, Slots.put, Slots.get, Slots.keep, if_true, if_false, List.contains_cons, List.contains_nil, true_and, and_true, ↓ap_move, pop_move, ↓ap_assign, pop_assign, hB2.len Try.underlying25, hB2.apI Try.underlying25 sz5, hB2.agI Try.underlying25 sz5, hB2.apLd ag5, hB2.agLd ag5, hB2.eqnil Try.underlying25, hB2.nenil Try.underlying25, hB2.conv Try.underlying25 Try.underlying9 Try.underlying5]
            repeat (with_reducible refine And.intro ?_ ?_; · first | trivial | omega | (intro hg; simp only [Bool.and_eq_true, Bool.or_eq_true, Bool.not_eq_true', Bool.and_eq_false_iff, Bool.or_eq_false_iff, Bool.not_eq_false', decide_eq_true_eq, decide_eq_false_iff_not, eqNil] at hg; omega))
            apply hK; clear hK K
            refine awp_seq ?_
            -- region 15  law.go:156
            refine awp_rseq [0, 1, 2, 7, 8, 10, 11, 78] (by rfl) fun K hK => ?_
            simp (decide := true) only [aOps_nil, ev, absV, absS, putD, Slots.put, Slots.get, Slots.keep, if_true, if_false, List.contains_cons, List.contains_nil, true_and, and_true, ↓ap_move, pop_move, hB2.len Try.underlying25, hB2.apI Try.underlying25 sz5, hB2.agI Try.underlying25 sz5, hB2.apLd ag5, hB2.agLd ag5, hB2.eqnil Try.underlying25, hB2.nenil Try.underlying25, hB2.conv Try.underlying25 Try.underlying9 Try.underlying5]
            repeat (with_reducible refine And.intro ?_ ?_; · first | trivial | omega | (intro hg; simp only [Bool.and_eq_true, Bool.or_eq_true, Bool.not_eq_true', Bool.and_eq_false_iff, Bool.or_eq_false_iff, Bool.not_eq_false', decide_eq_true_eq, decide_eq_false_iff_not, eqNil] at hg; omega))
            apply hK; clear hK K
            refine awp_cond (b := _) rfl (fun hb6 => ?_) (fun hb6 => ?_)
            · try simp only [decide_eq_true_eq, decide_eq_false_iff_not, Bool.not_eq_true', Bool.not_eq_false', Bool.and_eq_true, Bool.and_eq_false_iff, Bool.or_eq_true, Bool.or_eq_false_iff, Bool.true_eq, Bool.false_eq, reduceCtorEq] at hb6
              -- region 16  law.go:157
              refine awp_r [0, 1, 2, 7, 8, 10, 11] (by rfl) ?_
              simp (decide := true) only [aOps_nil, ev, absV, absS, putD, Slots.put, Slots.get, Slots.keep, if_true, if_false, List.contains_cons, List.contains_nil, true_and, and_true, ↓ap_move, pop_move, ↓ap_len, pop_len, pLen_slice Try.underlying25, pLen_nil Try.underlying25, ↓ap_binOp, pop_binOp, pBinX_int, pI_sub, pI_add, ↓ap_assign, pop_assign, hB2.len Try.underlying25, hB2.apI Try.underlying25 sz5, hB2.agI Try.underlying25 sz5, hB2.apLd ag5, hB2.agLd ag5, hB2.eqnil Try.underlying25, hB2.nenil Try.underlying25, hB2.conv Try.underlying25 Try.underlying9 Try.underlying5]
              try simp (disch := omega) only [wrap_i64, wrap_u8]
              repeat (with_reducible refine And.intro ?_ ?_; · first | trivial | omega | (intro hg; simp only [Bool.and_eq_true, Bool.or_eq_true, Bool.not_eq_true', Bool.and_eq_false_iff, Bool.or_eq_false_iff, Bool.not_eq_false', decide_eq_true_eq, decide_eq_false_iff_not, eqNil] at hg; omega))
              change Awp _ _ _ _ _ _ _
              -- region 17  law.go:159
              refine awp_rseq [0, 1, 2, 7, 8, 10, 11, 12] (by rfl) fun K hK => ?_
              simp (decide := true) only [aOps_nil, ev, absV, absS, putD, Slots.put, Slots.get, Slots.keep, if_true, if_false, List.contains_cons, List.contains_nil, true_and, and_true, ↓ap_assign, pop_assign, hB2.len Try.underlying25, hB2.apI Try.underlying25 sz5, hB2.agI Try.underlying25 sz5, hB2.apLd ag5, hB2.agLd ag5, hB2.eqnil Try.underlying25, hB2.nenil Try.underlying25, hB2.conv Try.underlying25 Try.underlying9 Try.underlying5]
              repeat (with_reducible refine And.intro ?_ ?_; · first | trivial | omega | (intro hg; simp only [Bool.and_eq_true, Bool.or_eq_true, Bool.not_eq_true', Bool.and_eq_false_iff, Bool.or_eq_false_iff, Bool.not_eq_false', decide_eq_true_eq, decide_eq_false_iff_not, eqNil] at hg; omega))
              apply hK; clear hK K
              refine awp_seq ?_
              -- region 18  law.go:160
              refine awp_rseq [0, 1, 2, 7, 8, 10, 11, 12, 92] (by rfl) fun K hK => ?_
              simp (decide := true) only [aOps_nil, ev, absV, absS, putD, Slots.put, Slots.get, Slots.keep, if_true, if_false, List.contains_cons, List.contains_nil, true_and, and_true, ↓ap_move, pop_move, ↓ap_binOp, pop_binOp, pBinX_int, pI_geq, ↓ag_move, agP, agQ_some, gv, nthDst, gKnown_bool, gKnown_cond, guardB_cond, guardB_bool_true, guardB_bool_false, cv_cv, implies_true, Bool.not_not, decide_true, decide_false, Bool.not_false, Bool.not_true, condV_true, condV_false, forall_const, Bool.and_true, Bool.and_false, Bool.true_and, Bool.false_and, Bool.or_true, Bool.or_false, Bool.true_or, Bool.false_or, ↓ag_len, pop_len, pLen_slice Try.underlying25, pLen_nil Try.underlying25, cv_len, cp_len, ↓ag_binOp, cv_binl, cv_binr, cp_binl, cp_binr, pI_lss, ↓ap_pick, pop_pick, pPick_bool, pickV_cond_l, pickV_cond_r, pickV_cond_rn, cp_nest1, cp_nest2, cp_nest3, cp_nest4, pickV_and, pickV_or, hB2.len Try.underlying25, hB2.apI Try.underlying25 sz5, hB2.agI Try.underlying25 sz5, hB2.apLd ag5, hB2.agLd ag5, hB2.eqnil Try.underlying25, hB2.nenil Try.underlying25, hB2.conv Try.underlying25 Try.underlying9 Try.underlying5]
              repeat (with_reducible refine And.intro ?_ ?_; · first | trivial | omega | (intro hg; simp only [Bool.and_eq_true, Bool.or_eq_true, Bool.not_eq_true', Bool.and_eq_false_iff, Bool.or_eq_false_iff, Bool.not_eq_false', decide_eq_true_eq, decide_eq_false_iff_not, eqNil] at hg; omega))
              apply hK; clear hK K
              refine awp_cond (b := _) rfl (fun hb7 => ?_) (fun hb7 => ?_)
              · try simp only [decide_eq_true_eq, decide_eq_false_iff_not, Bool.not_eq_true', Bool.not_eq_false', Bool.and_eq_true, Bool.and_eq_false_iff, Bool.or_eq_true, Bool.or_eq_false_iff, Bool.true_eq, Bool.false_eq, reduceCtorEq] at hb7
                -- region 19  law.go:161
                refine awp_r [0, 1, 2, 7, 8, 10, 12] (by rfl) ?_
                simp (decide := true) only [aOps_nil, ev, absV, absS, putD, Slots.put, Slots.get, Slots.keep, if_true, if_false, List.contains_cons, List.contains_nil, true_and, and_true, ↓ap_move, pop_move, ↓ap_indexAddrL, apL_mk, pIndexAddr_slice Try.underlying25 sz5, ↓ap_loadL, pLoad_one ag5, ↓ap_assign, pop_assign, hB2.len Try.underlying25, hB2.apI Try.underlying25 sz5, hB2.agI Try.underlying25 sz5, hB2.apLd ag5, hB2.agLd ag5, hB2.eqnil Try.underlying25, hB2.nenil Try.underlying25, hB2.conv Try.underlying25 Try.underlying9 Try.underlying5]
                repeat (with_reducible refine And.intro ?_ ?_; · first | trivial | omega | (intro hg; simp only [Bool.and_eq_true, Bool.or_eq_true, Bool.not_eq_true', Bool.and_eq_false_iff, Bool.or_eq_false_iff, Bool.not_eq_false', decide_eq_true_eq, decide_eq_false_iff_not, eqNil] at hg; omega))
                change Awp _ _ _ _ _ _ _
                refine awp_seq ?_
                -- region 20  law.go:163
                refine awp_rseq [0, 1, 2, 7, 8, 10, 102] (by rfl) fun K hK => ?_
                simp (decide := true) only [aOps_nil, ev, absV, absS, putD, Slots.put, Slots.get, Slots.keep, if_true, if_false, List.contains_cons, List.contains_nil, true_and, and_true, ↓ap_move, pop_move, ↓ap_indexAddrL, apL_mk, pIndexAddr_slice Try.underlying25 sz5, ↓ap_loadL, pLoad_one ag5, ↓ap_binOp, pop_binOp, pBinX_int, pI_neq, hB2.len Try.underlying25, hB2.apI Try.underlying25 sz5, hB2.agI Try.underlying25 sz5, hB2.apLd ag5, hB2.agLd ag5, hB2.eqnil Try.underlying25, hB2.nenil Try.underlying25, hB2.conv Try.underlying25 Try.underlying9 Try.underlying5, rd_set, Nat.zero_add, Nat.mul_one, Int.toNat_natCast, byteCells_getD (bs := mapTo incU (fitB bs N left) i) (i := i) (by omega), mapTo_get incU (fitB bs N left) i (by omega), AVal.live]
                repeat (with_reducible refine And.intro ?_ ?_; · first | trivial | omega | (intro hg; simp only [Bool.and_eq_true, Bool.or_eq_true, Bool.not_eq_true', Bool.and_eq_false_iff, Bool.or_eq_false_iff, Bool.not_eq_false', decide_eq_true_eq, decide_eq_false_iff_not, eqNil] at hg; omega))
                apply hK; clear hK K
                refine awp_cond (b := _) rfl (fun hb8 => ?_) (fun hb8 => ?_)
                · try simp only [decide_eq_true_eq, decide_eq_false_iff_not, Bool.not_eq_true', Bool.not_eq_false', Bool.and_eq_true, Bool.and_eq_false_iff, Bool.or_eq_true, Bool.or_eq_false_iff, Bool.true_eq, Bool.false_eq, reduceCtorEq] at hb8
                  -- region 21  law.go:164
                  refine awp_rseq [6] (by rfl) fun K hK => ?_
                  simp (decide := true) only [aOps_nil, ev, absV, absS, putD, Slots.put, Slots.get, Slots.keep, if_true, if_false, List.contains_cons, List.contains_nil, true_and, and_true, ↓ap_assign, pop_assign, hB2.len Try.underlying25, hB2.apI Try.underlying25 sz5, hB2.agI Try.underlying25 sz5, hB2.apLd ag5, hB2.agLd ag5, hB2.eqnil Try.underlying25, hB2.nenil Try.underlying25, hB2.conv Try.underlying25 Try.underlying9 Try.underlying5]
                  repeat (with_reducible refine And.intro ?_ ?_; · first | trivial | omega | (intro hg; simp only [Bool.and_eq_true, Bool.or_eq_true, Bool.not_eq_true', Bool.and_eq_false_iff, Bool.or_eq_false_iff, Bool.not_eq_false', decide_eq_true_eq, decide_eq_false_iff_not, eqNil] at hg; omega))
                  apply hK; clear hK K
                  refine awp_ret ?_
                  try simp only [thenA_ret, inBlockA_ret]
                  refine retA_ret _ (Sub.refl _) (resPre_tmp (resPre_nil)) ?_
                  simp (decide := true) only [aOps_nil, ev, absV, absS, putD, Slots.put, Slots.get, Slots.keep, if_true, if_false, List.contains_cons, List.contains_nil, true_and, and_true, resOf_one, hB2.len Try.underlying25, hB2.apI Try.underlying25 sz5, hB2.agI Try.underlying25 sz5, hB2.apLd ag5, hB2.agLd ag5, hB2.eqnil Try.underlying25, hB2.nenil Try.underlying25, hB2.conv Try.underlying25 Try.underlying9 Try.underlying5]
                  exfalso
                  subst hb6
                  have e : ((bs.length : Int) - N + i).toNat = bs.length + i - N := by omega
                  rw [fitB_left bs N i (by omega), if_pos (by omega), e] at hb8
                  exact hb8 rfl
                · try simp only [decide_eq_true_eq, decide_eq_false_iff_not, Bool.not_eq_true', Bool.not_eq_false', Bool.and_eq_true, Bool.and_eq_false_iff, Bool.or_eq_true, Bool.or_eq_false_iff, Bool.true_eq, Bool.false_eq, reduceCtorEq] at hb8
                  refine awp_skip ?_
                  change Awp _ _ _ _ _ _ _
                  -- region 22  law.go:166
                  refine awp_r [0, 1, 2, 7, 8, 10] (by rfl) ?_
                  simp (decide := true) only [aOps_nil, ev, absV, absS, putD, Slots.put, Slots.get, Slots.keep, if_true, if_false, List.contains_cons, List.contains_nil, true_and, and_true, ↓ap_move, pop_move, ↓ap_indexAddrL, apL_mk, pIndexAddr_slice Try.underlying25 sz5, ↓ap_loadL, pLoad_one ag5, ↓ap_binOp, pop_binOp, pBinX_int, pI_add, hB2.len Try.underlying25, hB2.apI Try.underlying25 sz5, hB2.agI Try.underlying25 sz5, hB2.apLd ag5, hB2.agLd ag5, hB2.eqnil Try.underlying25, hB2.nenil Try.underlying25, hB2.conv Try.underlying25 Try.underlying9 Try.underlying5, rd_set, Nat.zero_add, Nat.mul_one, Int.toNat_natCast, byteCells_getD (bs := mapTo incU (fitB bs N left) i) (i := i) (by omega), mapTo_get incU (fitB bs N left) i (by omega), AVal.live]
                  try simp (disch := omega) only [wrap_i64, wrap_u8]
                  try simp (decide := true) only [aOps_nil, ev, absV, absS, putD, Slots.put, Slots.get, Slots.keep, if_true, if_false, List.contains_cons, List.contains_nil, true_and, and_true, ↓ap_indexAddrL, apL_mk, pIndexAddr_slice Try.underlying25 sz5, hB2.len Try.underlying25, hB2.apI Try.underlying25 sz5, hB2.agI Try.underlying25 sz5, hB2.apLd ag5, hB2.agLd ag5, hB2.eqnil Try.underlying25, hB2.nenil Try.underlying25, hB2.conv Try.underlying25 Try.underlying9 Try.underlying5, rd_set, Nat.zero_add, Nat.mul_one, Int.toNat_natCast, byteCells_getD (bs := mapTo incU (fitB bs N left) i) (i := i) (by omega), mapTo_get incU (fitB bs N left) i (by omega), AVal.live]
                  repeat (with_reducible refine And.intro ?_ ?_; · first | trivial | omega | (intro hg; simp only [Bool.and_eq_true, Bool.or_eq_true, Bool.not_eq_true', Bool.and_eq_false_iff, Bool.or_eq_false_iff, Bool.not_eq_false', decide_eq_true_eq, decide_eq_false_iff_not, eqNil] at hg; omega))
                  have hw := incU_bounds ((fitB bs N left).getD i 0)
                  refine aOps_storeByte (i := i) (by rfl) (by rfl) sz5 (by rfl) (by omega) (by omega) (Nat.zero_le _) (by first | exact hw.1 | omega) (by first | exact hw.2 | omega) ?_
                  simp (decide := true) only [aOps_nil, ev, absV, absS, putD, Slots.put, Slots.get, Slots.keep, if_true, if_false, List.contains_cons, List.contains_nil, true_and, and_true, hB2.len Try.underlying25, hB2.apI Try.underlying25 sz5, hB2.agI Try.underlying25 sz5, hB2.apLd ag5, hB2.agLd ag5, hB2.eqnil Try.underlying25, hB2.nenil Try.underlying25, hB2.conv Try.underlying25 Try.underlying9 Try.underlying5, rd_set, Nat.zero_add, Nat.mul_one, Int.toNat_natCast, byteCells_getD (bs := mapTo incU (fitB bs N left) i) (i := i) (by omega), mapTo_get incU (fitB bs N left) i (by omega), AVal.live]
                  repeat (with_reducible refine And.intro ?_ ?_; · first | trivial | omega | (intro hg; simp only [Bool.and_eq_true, Bool.or_eq_true, Bool.not_eq_true', Bool.and_eq_false_iff, Bool.or_eq_false_iff, Bool.not_eq_false', decide_eq_true_eq, decide_eq_false_iff_not, eqNil] at hg; omega))
                  change Awp _ _ _ _ _ _ _
                  -- region 13  law.go:154
                  refine awp_r [0, 1, 2, 7, 8, 10] (by rfl) ?_
                  simp (decide := true) only [aOps_nil, ev, absV, absS, putD, Slots.put, Slots.get, Slots.keep, if_true, if_false, List.contains_cons, List.contains_nil, true_and, and_true, ↓ap_move, pop_move, ↓ap_binOp, pop_binOp, pBinX_int, pI_add, ↓ap_assign, pop_assign, hB2.len Try.underlying25, hB2.apI Try.underlying25 sz5, hB2.agI Try.underlying25 sz5, hB2.apLd ag5, hB2.agLd ag5, hB2.eqnil Try.underlying25, hB2.nenil Try.underlying25, hB2.conv Try.underlying25 Try.underlying9 Try.underlying5]
                  try simp (disch := omega) only [wrap_i64, wrap_u8]
                  repeat (with_reducible refine And.intro ?_ ?_; · first | trivial | omega | (intro hg; simp only [Bool.and_eq_true, Bool.or_eq_true, Bool.not_eq_true', Bool.and_eq_false_iff, Bool.or_eq_false_iff, Bool.not_eq_false', decide_eq_true_eq, decide_eq_false_iff_not, eqNil] at hg; omega))
                  try simp only [thenA_normal, inBlockA_normal]
                  refine ⟨i + 1, rfl, ?_, by omega, by omega⟩
                  rw [← mapTo_succ incU _ i (by omega)]
                  first
                  | exact Sub.refl _
                  | (rw [incU, wrap_u8 (by omega) (by omega)]; exact Sub.refl _)
              · try simp only [decide_eq_true_eq, decide_eq_false_iff_not, Bool.not_eq_true', Bool.not_eq_false', Bool.and_eq_true, Bool.and_eq_false_iff, Bool.or_eq_true, Bool.or_eq_false_iff, Bool.true_eq, Bool.false_eq, reduceCtorEq] at hb7
                refine awp_skip ?_
                change Awp _ _ _ _ _ _ _
                refine awp_seq ?_
                -- region 20  law.go:163
                refine awp_rseq [0, 1, 2, 7, 8, 10, 102] (by rfl) fun K hK => ?_
                simp (decide := true) only [aOps_nil, ev, absV, absS, putD, Slots.put, Slots.get, Slots.keep, if_true, if_false, List.contains_cons, List.contains_nil, true_and, and_true, ↓ap_move, pop_move, ↓ap_indexAddrL, apL_mk, pIndexAddr_slice Try.underlying25 sz5, ↓ap_loadL, pLoad_one ag5, ↓ap_binOp, pop_binOp, pBinX_int, pI_neq, hB2.len Try.underlying25, hB2.apI Try.underlying25 sz5, hB2.agI Try.underlying25 sz5, hB2.apLd ag5, hB2.agLd ag5, hB2.eqnil Try.underlying25, hB2.nenil Try.underlying25, hB2.conv Try.underlying25 Try.underlying9 Try.underlying5, rd_set, Nat.zero_add, Nat.mul_one, Int.toNat_natCast, byteCells_getD (bs := mapTo incU (fitB bs N left) i) (i := i) (by omega), mapTo_get incU (fitB bs N left) i (by omega), AVal.live]
                repeat (with_reducible refine And.intro ?_ ?_; · first | trivial | omega | (intro hg; simp only [Bool.and_eq_true, Bool.or_eq_true, Bool.not_eq_true', Bool.and_eq_false_iff, Bool.or_eq_false_iff, Bool.not_eq_false', decide_eq_true_eq, decide_eq_false_iff_not, eqNil] at hg; omega))
                apply hK; clear hK K
                refine awp_cond (b := _) rfl (fun hb9 => ?_) (fun hb9 => ?_)
                · try simp only [decide_eq_true_eq, decide_eq_false_iff_not, Bool.not_eq_true', Bool.not_eq_false', Bool.and_eq_true, Bool.and_eq_false_iff, Bool.or_eq_true, Bool.or_eq_false_iff, Bool.true_eq, Bool.false_eq, reduceCtorEq] at hb9
                  -- region 21  law.go:164
                  refine awp_rseq [6] (by rfl) fun K hK => ?_
                  simp (decide := true) only [aOps_nil, ev, absV, absS, putD, Slots.put, Slots.get, Slots.keep, if_true, if_false, List.contains_cons, List.contains_nil, true_and, and_true, ↓ap_assign, pop_assign, hB2.len Try.underlying25, hB2.apI Try.underlying25 sz5, hB2.agI Try.underlying25 sz5, hB2.apLd ag5, hB2.agLd ag5, hB2.eqnil Try.underlying25, hB2.nenil Try.underlying25, hB2.conv Try.underlying25 Try.underlying9 Try.underlying5]
                  repeat (with_reducible refine And.intro ?_ ?_; · first | trivial | omega | (intro hg; simp only [Bool.and_eq_true, Bool.or_eq_true, Bool.not_eq_true', Bool.and_eq_false_iff, Bool.or_eq_false_iff, Bool.not_eq_false', decide_eq_true_eq, decide_eq_false_iff_not, eqNil] at hg; omega))
                  apply hK; clear hK K
                  refine awp_ret ?_
                  try simp only [thenA_ret, inBlockA_ret]
                  refine retA_ret _ (Sub.refl _) (resPre_tmp (resPre_nil)) ?_
                  simp (decide := true) only [aOps_nil, ev, absV, absS, putD, Slots.put, Slots.get, Slots.keep, if_true, if_false, List.contains_cons, List.contains_nil, true_and, and_true, resOf_one, hB2.len Try.underlying25, hB2.apI Try.underlying25 sz5, hB2.agI Try.underlying25 sz5, hB2.apLd ag5, hB2.agLd ag5, hB2.eqnil Try.underlying25, hB2.nenil Try.underlying25, hB2.conv Try.underlying25 Try.underlying9 Try.underlying5]
                  exfalso
                  subst hb6
                  rw [fitB_left bs N i (by omega), if_neg (by omega)] at hb9
                  exact hb9 rfl
                · try simp only [decide_eq_true_eq, decide_eq_false_iff_not, Bool.not_eq_true', Bool.not_eq_false', Bool.and_eq_true, Bool.and_eq_false_iff, Bool.or_eq_true, Bool.or_eq_false_iff, Bool.true_eq, Bool.false_eq, reduceCtorEq] at hb9
                  refine awp_skip ?_
                  change Awp _ _ _ _ _ _ _
                  -- region 22  law.go:166
                  refine awp_r [0, 1, 2, 7, 8, 10] (by rfl) ?_
                  simp (decide := true) only [aOps_nil, ev, absV, absS, putD, Slots.put, Slots.get, Slots.keep, if_true, if_false, List.contains_cons, List.contains_nil, true_and, and_true, ↓ap_move, pop_move, ↓ap_indexAddrL, apL_mk, pIndexAddr_slice Try.underlying25 sz5, ↓ap_loadL, pLoad_one ag5, ↓ap_binOp, pop_binOp, pBinX_int, pI_add, hB2.len Try.underlying25, hB2.apI Try.underlying25 sz5, hB2.agI Try.underlying25 sz5, hB2.apLd ag5, hB2.agLd ag5, hB2.eqnil Try.underlying25, hB2.nenil Try.underlying25, hB2.conv Try.underlying25 Try.underlying9 Try.underlying5, rd_set, Nat.zero_add, Nat.mul_one, Int.toNat_natCast, byteCells_getD (bs := mapTo incU (fitB bs N left) i) (i := i) (by omega), mapTo_get incU (fitB bs N left) i (by omega), AVal.live]
                  try simp (disch := omega) only [wrap_i64, wrap_u8]
                  try simp (decide := true) only [aOps_nil, ev, absV, absS, putD, Slots.put, Slots.get, Slots.keep, if_true, if_false, List.contains_cons, List.contains_nil, true_and, and_true, ↓ap_indexAddrL, apL_mk, pIndexAddr_slice Try.underlying25 sz5, hB2.len Try.underlying25, hB2.apI Try.underlying25 sz5, hB2.agI Try.underlying25 sz5, hB2.apLd ag5, hB2.agLd ag5, hB2.eqnil Try.underlying25, hB2.nenil Try.underlying25, hB2.conv Try.underlying25 Try.underlying9 Try.underlying5, rd_set, Nat.zero_add, Nat.mul_one, Int.toNat_natCast, byteCells_getD (bs := mapTo incU (fitB bs N left) i) (i := i) (by omega), mapTo_get incU (fitB bs N left) i (by omega), AVal.live]
                  repeat (with_reducible refine And.intro ?_ ?_; · first | trivial | omega | (intro hg; simp only [Bool.and_eq_true, Bool.or_eq_true, Bool.not_eq_true', Bool.and_eq_false_iff, Bool.or_eq_false_iff, Bool.not_eq_false', decide_eq_true_eq, decide_eq_false_iff_not, eqNil] at hg; omega))
                  have hw := incU_bounds ((fitB bs N left).getD i 0)
                  refine aOps_storeByte (i := i) (by rfl) (by rfl) sz5 (by rfl) (by omega) (by omega) (Nat.zero_le _) (by first | exact hw.1 | omega) (by first | exact hw.2 | omega) ?_
                  simp (decide := true) only [aOps_nil, ev, absV, absS, putD, Slots.put, Slots.get, Slots.keep, if_true, if_false, List.contains_cons, List.contains_nil, true_and, and_true, hB2.len Try.underlying25, hB2.apI Try.underlying25 sz5, hB2.agI Try.underlying25 sz5, hB2.apLd ag5, hB2.agLd ag5, hB2.eqnil Try.underlying25, hB2.nenil Try.underlying25, hB2.conv Try.underlying25 Try.underlying9 Try.underlying5, rd_set, Nat.zero_add, Nat.mul_one, Int.toNat_natCast, byteCells_getD (bs := mapTo incU (fitB bs N left) i) (i := i) (by omega), mapTo_get incU (fitB bs N left) i (by omega), AVal.live]
                  repeat (with_reducible refine And.intro ?_ ?_; · first | trivial | omega | (intro hg; simp only [Bool.and_eq_true, Bool.or_eq_true, Bool.not_eq_true', Bool.and_eq_false_iff, Bool.or_eq_false_iff, Bool.not_eq_false', decide_eq_true_eq, decide_eq_false_iff_not, eqNil] at hg; omega))
                  change Awp _ _ _ _ _ _ _
                  -- region 13  law.go:154
                  refine awp_r [0, 1, 2, 7, 8, 10] (by rfl) ?_
                  simp (decide := true) only [aOps_nil, ev, absV, absS, putD, Slots.put, Slots.get, Slots.keep, if_true, if_false, List.contains_cons, List.contains_nil, true_and, and_true, ↓ap_move, pop_move, ↓ap_binOp, pop_binOp, pBinX_int, pI_add, ↓ap_assign, pop_assign, hB2.len Try.underlying25, hB2.apI Try.underlying25 sz5, hB2.agI Try.underlying25 sz5, hB2.apLd ag5, hB2.agLd ag5, hB2.eqnil Try.underlying25, hB2.nenil Try.underlying25, hB2.conv Try.underlying25 Try.underlying9 Try.underlying5]
                  try simp (disch := omega) only [wrap_i64, wrap_u8]
                  repeat (with_reducible refine And.intro ?_ ?_; · first | trivial | omega | (intro hg; simp only [Bool.and_eq_true, Bool.or_eq_true, Bool.not_eq_true', Bool.and_eq_false_iff, Bool.or_eq_false_iff, Bool.not_eq_false', decide_eq_true_eq, decide_eq_false_iff_not, eqNil] at hg; omega))
                  try simp only [thenA_normal, inBlockA_normal]
                  refine ⟨i + 1, rfl, ?_, by omega, by omega⟩
                  rw [← mapTo_succ incU _ i (by omega)]
                  first
                  | exact Sub.refl _
                  | (rw [incU, wrap_u8 (by omega) (by omega)]; exact Sub.refl _)
            · try simp only [decide_eq_true_eq, decide_eq_false_iff_not, Bool.not_eq_true', Bool.not_eq_false', Bool.and_eq_true, Bool.and_eq_false_iff, Bool.or_eq_true, Bool.or_eq_false_iff, Bool.true_eq, Bool.false_eq, reduceCtorEq] at hb6
              refine awp_skip ?_
              change Awp _ _ _ _ _ _ _
              -- region 17  law.go:159
              refine awp_rseq [0, 1, 2, 7, 8, 10, 11, 12] (by rfl) fun K hK => ?_
              simp (decide := true) only [aOps_nil, ev, absV, absS, putD, Slots.put, Slots.get, Slots.keep, if_true, if_false, List.contains_cons, List.contains_nil, true_and, and_true, ↓ap_assign, pop_assign, hB2.len Try.underlying25, hB2.apI Try.underlying25 sz5, hB2.agI Try.underlying25 sz5, hB2.apLd ag5, hB2.agLd ag5, hB2.eqnil Try.underlying25, hB2.nenil Try.underlying25, hB2.conv Try.underlying25 Try.underlying9 Try.underlying5]
              repeat (with_reducible refine And.intro ?_ ?_; · first | trivial | omega | (intro hg; simp only [Bool.and_eq_true, Bool.or_eq_true, Bool.not_eq_true', Bool.and_eq_false_iff, Bool.or_eq_false_iff, Bool.not_eq_false', decide_eq_true_eq, decide_eq_false_iff_not, eqNil] at hg; omega))
              apply hK; clear hK K
              refine awp_seq ?_
              -- region 18  law.go:160
              refine awp_rseq [0, 1, 2, 7, 8, 10, 11, 12, 92] (by rfl) fun K hK => ?_
              simp (decide := true) only [aOps_nil, ev, absV, absS, putD, Slots.put, Slots.get, Slots.keep, if_true, if_false, List.contains_cons, List.contains_nil, true_and, and_true, ↓ap_move, pop_move, ↓ap_binOp, pop_binOp, pBinX_int, pI_geq, ↓ag_move, agP, agQ_some, gv, nthDst, gKnown_bool, gKnown_cond, guardB_cond, guardB_bool_true, guardB_bool_false, cv_cv, implies_true, Bool.not_not, decide_true, decide_false, Bool.not_false, Bool.not_true, condV_true, condV_false, forall_const, Bool.and_true, Bool.and_false, Bool.true_and, Bool.false_and, Bool.or_true, Bool.or_false, Bool.true_or, Bool.false_or, ↓ag_len, pop_len, pLen_slice Try.underlying25, pLen_nil Try.underlying25, cv_len, cp_len, ↓ag_binOp, cv_binl, cv_binr, cp_binl, cp_binr, pI_lss, ↓ap_pick, pop_pick, pPick_bool, pickV_cond_l, pickV_cond_r, pickV_cond_rn, cp_nest1, cp_nest2, cp_nest3, cp_nest4, pickV_and, pickV_or, hB2.len Try.underlying25, hB2.apI Try.underlying25 sz5, hB2.agI Try.underlying25 sz5, hB2.apLd ag5, hB2.agLd ag5, hB2.eqnil Try.underlying25, hB2.nenil Try.underlying25, hB2.conv Try.underlying25 Try.underlying9 Try.underlying5]
              repeat (with_reducible refine And.intro ?_ ?_; · first | trivial | omega | (intro hg; simp only [Bool.and_eq_true, Bool.or_eq_true, Bool.not_eq_true', Bool.and_eq_false_iff, Bool.or_eq_false_iff, Bool.not_eq_false', decide_eq_true_eq, decide_eq_false_iff_not, eqNil] at hg; omega))
              apply hK; clear hK K
              refine awp_cond (b := _) rfl (fun hb10 => ?_) (fun hb10 => ?_)
              · try simp only [decide_eq_true_eq, decide_eq_false_iff_not, Bool.not_eq_true', Bool.not_eq_false', Bool.and_eq_true, Bool.and_eq_false_iff, Bool.or_eq_true, Bool.or_eq_false_iff, Bool.true_eq, Bool.false_eq, reduceCtorEq] at hb10
                -- region 19  law.go:161
                refine awp_r [0, 1, 2, 7, 8, 10, 12] (by rfl) ?_
                simp (decide := true) only [aOps_nil, ev, absV, absS, putD, Slots.put, Slots.get, Slots.keep, if_true, if_false, List.contains_cons, List.contains_nil, true_and, and_true, ↓ap_move, pop_move, ↓ap_indexAddrL, apL_mk, pIndexAddr_slice Try.underlying25 sz5, ↓ap_loadL, pLoad_one ag5, ↓ap_assign, pop_assign, hB2.len Try.underlying25, hB2.apI Try.underlying25 sz5, hB2.agI Try.underlying25 sz5, hB2.apLd ag5, hB2.agLd ag5, hB2.eqnil Try.underlying25, hB2.nenil Try.underlying25, hB2.conv Try.underlying25 Try.underlying9 Try.underlying5]
                repeat (with_reducible refine And.intro ?_ ?_; · first | trivial | omega | (intro hg; simp only [Bool.and_eq_true, Bool.or_eq_true, Bool.not_eq_true', Bool.and_eq_false_iff, Bool.or_eq_false_iff, Bool.not_eq_false', decide_eq_true_eq, decide_eq_false_iff_not, eqNil] at hg; omega))
                change Awp _ _ _ _ _ _ _
                refine awp_seq ?_
                -- region 20  law.go:163
                refine awp_rseq [0, 1, 2, 7, 8, 10, 102] (by rfl) fun K hK => ?_
                simp (decide := true) only [aOps_nil, ev, absV, absS, putD, Slots.put, Slots.get, Slots.keep, if_true, if_false, List.contains_cons, List.contains_nil, true_and, and_true, ↓ap_move, pop_move, ↓ap_indexAddrL, apL_mk, pIndexAddr_slice Try.underlying25 sz5, ↓ap_loadL, pLoad_one ag5, ↓ap_binOp, pop_binOp, pBinX_int, pI_neq, hB2.len Try.underlying25, hB2.apI Try.underlying25 sz5, hB2.agI Try.underlying25 sz5, hB2.apLd ag5, hB2.agLd ag5, hB2.eqnil Try.underlying25, hB2.nenil Try.underlying25, hB2.conv Try.underlying25 Try.underlying9 Try.underlying5, rd_set, Nat.zero_add, Nat.mul_one, Int.toNat_natCast, byteCells_getD (bs := mapTo incU (fitB bs N left) i) (i := i) (by omega), mapTo_get incU (fitB bs N left) i (by omega), AVal.live]
                repeat (with_reducible refine And.intro ?_ ?_; · first | trivial | omega | (intro hg; simp only [Bool.and_eq_true, Bool.or_eq_true, Bool.not_eq_true', Bool.and_eq_false_iff, Bool.or_eq_false_iff, Bool.not_eq_false', decide_eq_true_eq, decide_eq_false_iff_not, eqNil] at hg; omega))
                apply hK; clear hK K
                refine awp_cond (b := _) rfl (fun hb11 => ?_) (fun hb11 => ?_)
                · try simp only [decide_eq_true_eq, decide_eq_false_iff_not, Bool.not_eq_true', Bool.not_eq_false', Bool.and_eq_true, Bool.and_eq_false_iff, Bool.or_eq_true, Bool.or_eq_false_iff, Bool.true_eq, Bool.false_eq, reduceCtorEq] at hb11
                  -- region 21  law.go:164
                  refine awp_rseq [6] (by rfl) fun K hK => ?_
                  simp (decide := true) only [aOps_nil, ev, absV, absS, putD, Slots.put, Slots.get, Slots.keep, if_true, if_false, List.contains_cons, List.contains_nil, true_and, and_true, ↓ap_assign, pop_assign, hB2.len Try.underlying25, hB2.apI Try.underlying25 sz5, hB2.agI Try.underlying25 sz5, hB2.apLd ag5, hB2.agLd ag5, hB2.eqnil Try.underlying25, hB2.nenil Try.underlying25, hB2.conv Try.underlying25 Try.underlying9 Try.underlying5]
                  repeat (with_reducible refine And.intro ?_ ?_; · first | trivial | omega | (intro hg; simp only [Bool.and_eq_true, Bool.or_eq_true, Bool.not_eq_true', Bool.and_eq_false_iff, Bool.or_eq_false_iff, Bool.not_eq_false', decide_eq_true_eq, decide_eq_false_iff_not, eqNil] at hg; omega))
                  apply hK; clear hK K
                  refine awp_ret ?_
                  try simp only [thenA_ret, inBlockA_ret]
                  refine retA_ret _ (Sub.refl _) (resPre_tmp (resPre_nil)) ?_
                  simp (decide := true) only [aOps_nil, ev, absV, absS, putD, Slots.put, Slots.get, Slots.keep, if_true, if_false, List.contains_cons, List.contains_nil, true_and, and_true, resOf_one, hB2.len Try.underlying25, hB2.apI Try.underlying25 sz5, hB2.agI Try.underlying25 sz5, hB2.apLd ag5, hB2.agLd ag5, hB2.eqnil Try.underlying25, hB2.nenil Try.underlying25, hB2.conv Try.underlying25 Try.underlying9 Try.underlying5]
                  exfalso
                  subst hb6
                  rw [fitB_right bs N i (by omega), if_pos (by omega)] at hb11
                  exact hb11 rfl
                · try simp only [decide_eq_true_eq, decide_eq_false_iff_not, Bool.not_eq_true', Bool.not_eq_false', Bool.and_eq_true, Bool.and_eq_false_iff, Bool.or_eq_true, Bool.or_eq_false_iff, Bool.true_eq, Bool.false_eq, reduceCtorEq] at hb11
                  refine awp_skip ?_
                  change Awp _ _ _ _ _ _ _
                  -- region 22  law.go:166
                  refine awp_r [0, 1, 2, 7, 8, 10] (by rfl) ?_
                  simp (decide := true) only [aOps_nil, ev, absV, absS, putD, Slots.put, Slots.get, Slots.keep, if_true, if_false, List.contains_cons, List.contains_nil, true_and, and_true, ↓ap_move, pop_move, ↓ap_indexAddrL, apL_mk, pIndexAddr_slice Try.underlying25 sz5, ↓ap_loadL, pLoad_one ag5, ↓ap_binOp, pop_binOp, pBinX_int, pI_add, hB2.len Try.underlying25, hB2.apI Try.underlying25 sz5, hB2.agI Try.underlying25 sz5, hB2.apLd ag5, hB2.agLd ag5, hB2.eqnil Try.underlying25, hB2.nenil Try.underlying25, hB2.conv Try.underlying25 Try.underlying9 Try.underlying5, rd_set, Nat.zero_add, Nat.mul_one, Int.toNat_natCast, byteCells_getD (bs := mapTo incU (fitB bs N left) i) (i := i) (by omega), mapTo_get incU (fitB bs N left) i (by omega), AVal.live]
                  try simp (disch := omega) only [wrap_i64, wrap_u8]
                  try simp (decide := true) only [aOps_nil, ev, absV, absS, putD, Slots.put, Slots.get, Slots.keep, if_true, if_false, List.contains_cons, List.contains_nil, true_and, and_true, ↓ap_indexAddrL, apL_mk, pIndexAddr_slice Try.underlying25 sz5, hB2.len Try.underlying25, hB2.apI Try.underlying25 sz5, hB2.agI Try.underlying25 sz5, hB2.apLd ag5, hB2.agLd ag5, hB2.eqnil Try.underlying25, hB2.nenil Try.underlying25, hB2.conv Try.underlying25 Try.underlying9 Try.underlying5, rd_set, Nat.zero_add, Nat.mul_one, Int.toNat_natCast, byteCells_getD (bs := mapTo incU (fitB bs N left) i) (i := i) (by omega), mapTo_get incU (fitB bs N left) i (by omega), AVal.live]
                  repeat (with_reducible refine And.intro ?_ ?_; · first | trivial | omega | (intro hg; simp only [Bool.and_eq_true, Bool.or_eq_true, Bool.not_eq_true', Bool.and_eq_false_iff, Bool.or_eq_false_iff, Bool.not_eq_false', decide_eq_true_eq, decide_eq_false_iff_not, eqNil] at hg; omega))
                  have hw := incU_bounds ((fitB bs N left).getD i 0)
                  refine aOps_storeByte (i := i) (by rfl) (by rfl) sz5 (by rfl) (by omega) (by omega) (Nat.zero_le _) (by first | exact hw.1 | omega) (by first | exact hw.2 | omega) ?_
                  simp (decide := true) only [aOps_nil, ev, absV, absS, putD, Slots.put, Slots.get, Slots.keep, if_true, if_false, List.contains_cons, List.contains_nil, true_and, and_true, hB2.len Try.underlying25, hB2.apI Try.underlying25 sz5, hB2.agI Try.underlying25 sz5, hB2.apLd ag5, hB2.agLd ag5, hB2.eqnil Try.underlying25, hB2.nenil Try.underlying25, hB2.conv Try.underlying25 Try.underlying9 Try.underlying5, rd_set, Nat.zero_add, Nat.mul_one, Int.toNat_natCast, byteCells_getD (bs := mapTo incU (fitB bs N left) i) (i := i) (by omega), mapTo_get incU (fitB bs N left) i (by omega), AVal.live]
                  repeat (with_reducible refine And.intro ?_ ?_; · first | trivial | omega | (intro hg; simp only [Bool.and_eq_true, Bool.or_eq_true, Bool.not_eq_true', Bool.and_eq_false_iff, Bool.or_eq_false_iff, Bool.not_eq_false', decide_eq_true_eq, decide_eq_false_iff_not, eqNil] at hg; omega))
                  change Awp _ _ _ _ _ _ _
                  -- region 13  law.go:154
                  refine awp_r [0, 1, 2, 7, 8, 10] (by rfl) ?_
                  simp (decide := true) only [aOps_nil, ev, absV, absS, putD, Slots.put, Slots.get, Slots.keep, if_true, if_false, List.contains_cons, List.contains_nil, true_and, and_true, ↓ap_move, pop_move, ↓ap_binOp, pop_binOp, pBinX_int, pI_add, ↓ap_assign, pop_assign, hB2.len Try.underlying25, hB2.apI Try.underlying25 sz5, hB2.agI Try.underlying25 sz5, hB2.apLd ag5, hB2.agLd ag5, hB2.eqnil Try.underlying25, hB2.nenil Try.underlying25, hB2.conv Try.underlying25 Try.underlying9 Try.underlying5]
                  try simp (disch := omega) only [wrap_i64, wrap_u8]
                  repeat (with_reducible refine And.intro ?_ ?_; · first | trivial | omega | (intro hg; simp only [Bool.and_eq_true, Bool.or_eq_true, Bool.not_eq_true', Bool.and_eq_false_iff, Bool.or_eq_false_iff, Bool.not_eq_false', decide_eq_true_eq, decide_eq_false_iff_not, eqNil] at hg; omega))
                  try simp only [thenA_normal, inBlockA_normal]
                  refine ⟨i + 1, rfl, ?_, by omega, by omega⟩
                  rw [← mapTo_succ incU _ i (by omega)]
                  first
                  | exact Sub.refl _
                  | (rw [incU, wrap_u8 (by omega) (by omega)]; exact Sub.refl _)
              · try simp only [decide_eq_true_eq, decide_eq_false_iff_not, Bool.not_eq_true', Bool.not_eq_false', Bool.and_eq_true, Bool.and_eq_false_iff, Bool.or_eq_true, Bool.or_eq_false_iff, Bool.true_eq, Bool.false_eq, reduceCtorEq] at hb10
                refine awp_skip ?_
                change Awp _ _ _ _ _ _ _
                refine awp_seq ?_
                -- region 20  law.go:163
                refine awp_rseq [0, 1, 2, 7, 8, 10, 102] (by rfl) fun K hK => ?_
                simp (decide := true) only [aOps_nil, ev, absV, absS, putD, Slots.put, Slots.get, Slots.keep, if_true, if_false, List.contains_cons, List.contains_nil, true_and, and_true, ↓ap_move, pop_move, ↓ap_indexAddrL, apL_mk, pIndexAddr_slice Try.underlying25 sz5, ↓ap_loadL, pLoad_one ag5, ↓ap_binOp, pop_binOp, pBinX_int, pI_neq, hB2.len Try.underlying25, hB2.apI Try.underlying25 sz5, hB2.agI Try.underlying25 sz5, hB2.apLd ag5, hB2.agLd ag5, hB2.eqnil Try.underlying25, hB2.nenil Try.underlying25, hB2.conv Try.underlying25 Try.underlying9 Try.underlying5, rd_set, Nat.zero_add, Nat.mul_one, Int.toNat_natCast, byteCells_getD (bs := mapTo incU (fitB bs N left) i) (i := i) (by omega), mapTo_get incU (fitB bs N left) i (by omega), AVal.live]
                repeat (with_reducible refine And.intro ?_ ?_; · first | trivial | omega | (intro hg; simp only [Bool.and_eq_true, Bool.or_eq_true, Bool.not_eq_true', Bool.and_eq_false_iff, Bool.or_eq_false_iff, Bool.not_eq_false', decide_eq_true_eq, decide_eq_false_iff_not, eqNil] at hg; omega))
                apply hK; clear hK K
                refine awp_cond (b := _) rfl (fun hb12 => ?_) (fun hb12 => ?_)
                · try simp only [decide_eq_true_eq, decide_eq_false_iff_not, Bool.not_eq_true', Bool.not_eq_false', Bool.and_eq_true, Bool.and_eq_false_iff, Bool.or_eq_true, Bool.or_eq_false_iff, Bool.true_eq, Bool.false_eq, reduceCtorEq] at hb12
                  -- region 21  law.go:164
                  refine awp_rseq [6] (by rfl) fun K hK => ?_
                  simp (decide := true) only [aOps_nil, ev, absV, absS, putD, Slots.put, Slots.get, Slots.keep, if_true, if_false, List.contains_cons, List.contains_nil, true_and, and_true, ↓ap_assign, pop_assign, hB2.len Try.underlying25, hB2.apI Try.underlying25 sz5, hB2.agI Try.underlying25 sz5, hB2.apLd ag5, hB2.agLd ag5, hB2.eqnil Try.underlying25, hB2.nenil Try.underlying25, hB2.conv Try.underlying25 Try.underlying9 Try.underlying5]
                  repeat (with_reducible refine And.intro ?_ ?_; · first | trivial | omega | (intro hg; simp only [Bool.and_eq_true, Bool.or_eq_true, Bool.not_eq_true', Bool.and_eq_false_iff, Bool.or_eq_false_iff, Bool.not_eq_false', decide_eq_true_eq, decide_eq_false_iff_not, eqNil] at hg; omega))
                  apply hK; clear hK K
                  refine awp_ret ?_
                  try simp only [thenA_ret, inBlockA_ret]
                  refine retA_ret _ (Sub.refl _) (resPre_tmp (resPre_nil)) ?_
                  simp (decide := true) only [aOps_nil, ev, absV, absS, putD, Slots.put, Slots.get, Slots.keep, if_true, if_false, List.contains_cons, List.contains_nil, true_and, and_true, resOf_one, hB2.len Try.underlying25, hB2.apI Try.underlying25 sz5, hB2.agI Try.underlying25 sz5, hB2.apLd ag5, hB2.agLd ag5, hB2.eqnil Try.underlying25, hB2.nenil Try.underlying25, hB2.conv Try.underlying25 Try.underlying9 Try.underlying5]
                  exfalso
                  subst hb6
                  rw [fitB_right bs N i (by omega), if_neg (by omega)] at hb12
                  exact hb12 rfl
                · try simp only [decide_eq_true_eq, decide_eq_false_iff_not, Bool.not_eq_true', Bool.not_eq_false', Bool.and_eq_true, Bool.and_eq_false_iff, Bool.or_eq_true, Bool.or_eq_false_iff, Bool.true_eq, Bool.false_eq, reduceCtorEq] at hb12
                  refine awp_skip ?_
                  change Awp _ _ _ _ _ _ _
                  -- region 22  law.go:166
                  refine awp_r [0, 1, 2, 7, 8, 10] (by rfl) ?_
                  simp (decide := true) only [aOps_nil, ev, absV, absS, putD, Slots.put, Slots.get, Slots.keep, if_true, if_false, List.contains_cons, List.contains_nil, true_and, and_true, ↓ap_move, pop_move, ↓ap_indexAddrL, apL_mk, pIndexAddr_slice Try.underlying25 sz5, ↓ap_loadL, pLoad_one ag5, ↓ap_binOp, pop_binOp, pBinX_int, pI_add, hB2.len Try.underlying25, hB2.apI Try.underlying25 sz5, hB2.agI Try.underlying25 sz5, hB2.apLd ag5, hB2.agLd ag5, hB2.eqnil Try.underlying25, hB2.nenil Try.underlying25, hB2.conv Try.underlying25 Try.underlying9 Try.underlying5, rd_set, Nat.zero_add, Nat.mul_one, Int.toNat_natCast, byteCells_getD (bs := mapTo incU (fitB bs N left) i) (i := i) (by omega), mapTo_get incU (fitB bs N left) i (by omega), AVal.live]
                  try simp (disch := omega) only [wrap_i64, wrap_u8]
                  try simp (decide := true) only [aOps_nil, ev, absV, absS, putD, Slots.put, Slots.get, Slots.keep, if_true, if_false, List.contains_cons, List.contains_nil, true_and, and_true, ↓ap_indexAddrL, apL_mk, pIndexAddr_slice Try.underlying25 sz5, hB2.len Try.underlying25, hB2.apI Try.underlying25 sz5, hB2.agI Try.underlying25 sz5, hB2.apLd ag5, hB2.agLd ag5, hB2.eqnil Try.underlying25, hB2.nenil Try.underlying25, hB2.conv Try.underlying25 Try.underlying9 Try.underlying5, rd_set, Nat.zero_add, Nat.mul_one, Int.toNat_natCast, byteCells_getD (bs := mapTo incU (fitB bs N left) i) (i := i) (by omega), mapTo_get incU (fitB bs N left) i (by omega), AVal.live]
                  repeat (with_reducible refine And.intro ?_ ?_; · first | trivial | omega | (intro hg; simp only [Bool.and_eq_true, Bool.or_eq_true, Bool.not_eq_true', Bool.and_eq_false_iff, Bool.or_eq_false_iff, Bool.not_eq_false', decide_eq_true_eq, decide_eq_false_iff_not, eqNil] at hg; omega))
                  have hw := incU_bounds ((fitB bs N left).getD i 0)
                  refine aOps_storeByte (i := i) (by rfl) (by rfl) sz5 (by rfl) (by omega) (by omega) (Nat.zero_le _) (by first | exact hw.1 | omega) (by first | exact hw.2 | omega) ?_
                  simp (decide := true) only [aOps_nil, ev, absV, absS, putD, Slots.put, Slots.get, Slots.keep, if_true, if_false, List.contains_cons, List.contains_nil, true_and, and_true, hB2.len Try.underlying25, hB2.apI Try.underlying25 sz5, hB2.agI Try.underlying25 sz5, hB2.apLd ag5, hB2.agLd ag5, hB2.eqnil Try.underlying25, hB2.nenil Try.underlying25, hB2.conv Try.underlying25 Try.underlying9 Try.underlying5, rd_set, Nat.zero_add, Nat.mul_one, Int.toNat_natCast, byteCells_getD (bs := mapTo incU (fitB bs N left) i) (i := i) (by omega), mapTo_get incU (fitB bs N left) i (by omega), AVal.live]
                  repeat (with_reducible refine And.intro ?_ ?_; · first | trivial | omega | (intro hg; simp only [Bool.and_eq_true, Bool.or_eq_true, Bool.not_eq_true', Bool.and_eq_false_iff, Bool.or_eq_false_iff, Bool.not_eq_false', decide_eq_true_eq, decide_eq_false_iff_not, eqNil] at hg; omega))
                  change Awp _ _ _ _ _ _ _
                  -- region 13  law.go:154
                  refine awp_r [0, 1, 2, 7, 8, 10] (by rfl) ?_
                  simp (decide := true) only [aOps_nil, ev, absV, absS, putD, Slots.put, Slots.get, Slots.keep, if_true, if_false, List.contains_cons, List.contains_nil, true_and, and_true, ↓ap_move, pop_move, ↓ap_binOp, pop_binOp, pBinX_int, pI_add, ↓ap_assign, pop_assign, hB2.len Try.underlying25, hB2.apI Try.underlying25 sz5, hB2.agI Try.underlying25 sz5, hB2.apLd ag5, hB2.agLd ag5, hB2.eqnil Try.underlying25, hB2.nenil Try.underlying25, hB2.conv Try.underlying25 Try.underlying9 Try.underlying5]
                  try simp (disch := omega) only [wrap_i64, wrap_u8]
                  repeat (with_reducible refine And.intro ?_ ?_; · first | trivial | omega | (intro hg; simp only [Bool.and_eq_true, Bool.or_eq_true, Bool.not_eq_true', Bool.and_eq_false_iff, Bool.or_eq_false_iff, Bool.not_eq_false', decide_eq_true_eq, decide_eq_false_iff_not, eqNil] at hg; omega))
                  try simp only [thenA_normal, inBlockA_normal]
                  refine ⟨i + 1, rfl, ?_, by omega, by omega⟩
                  rw [← mapTo_succ incU _ i (by omega)]
                  first
                  | exact Sub.refl _
                  | (rw [incU, wrap_u8 (by omega) (by omega)]; exact Sub.refl _)
          · try simp only [decide_eq_true_eq, decide_eq_false_iff_not, Bool.not_eq_true', Bool.not_eq_false', Bool.and_eq_true, Bool.and_eq_false_iff, Bool.or_eq_true, Bool.or_eq_false_iff, Bool.true_eq, Bool.false_eq, reduceCtorEq] at hb5
            refine awp_exit ?_
            change Awp _ _ _ _ _ _ _
            -- region 23  law.go:168
            refine awp_rseq [6] (by rfl) fun K hK => ?_
            simp (decide := true) only [aOps_nil, ev, absV, absS, putD, Slots.put, Slots.get, Slots.keep, if_true, if_false, List.contains_cons, List.contains_nil, true_and, and_true, ↓ap_move, pop_move, ↓ap_convert _ _ _ (es_str Try.underlying25 Try.underlying9), pop_convert, pConv_nil Try.underlying25 Try.underlying9 Try.underlying5, pConv_bytes Try.underlying25 Try.underlying9 Try.underlying5, ↓ap_binOp, pop_binOp, pBinX_str, pS_eql, hB2.len Try.underlying25, hB2.apI Try.underlying25 sz5, hB2.agI Try.underlying25 sz5, hB2.apLd ag5, hB2.agLd ag5, hB2.eqnil Try.underlying25, hB2.nenil Try.underlying25, hB2.conv Try.underlying25 Try.underlying9 Try.underlying5]
            try simp (disch := omega) only [wrap_i64, wrap_u8]
            repeat (with_reducible refine And.intro ?_ ?_; · first | trivial | omega | (intro hg; simp only [Bool.and_eq_true, Bool.or_eq_true, Bool.not_eq_true', Bool.and_eq_false_iff, Bool.or_eq_false_iff, Bool.not_eq_false', decide_eq_true_eq, decide_eq_false_iff_not, eqNil] at hg; omega))
            first
            | (refine aOps_yes (by rfl) ?_; refine aOps_callV (V := .bool true) (by rfl) (by rfl) (c_lives w₀ _) ?_)
            | (refine aOps_gcall (V := .bool true) (f := _) (cap := _) (xs := _) rfl (fun hg => ⟨rfl, ?_⟩) (fun hg => c_lives w₀ _) ?_; · (simp (decide := true) only [gv, nthDst, Slots.get, if_true, if_false, guardB_bool_true, guardB_bool_false, guardB_cond, Bool.not_not] at hg; simp (decide := true) only [evs, ev, Slots.get, if_true, if_false, hg, condV_true, List.append_nil, List.map_cons, List.map_nil]))
            simp (decide := true) only [aOps_nil, ev, absV, absS, putD, Slots.put, Slots.get, Slots.keep, if_true, if_false, List.contains_cons, List.contains_nil, true_and, and_true, gv, nthDst, guardB_bool_true, guardB_bool_false, guardB_cond, ↓ap_pick, pop_pick, pPick_bool, pickV_cond_l, pickV_cond_r, pickV_cond_rn, cp_nest1, cp_nest2, cp_nest3, cp_nest4, pickV_and, pickV_or, ↓ap_assign, pop_assign, hB2.len Try.underlying25, hB2.apI Try.underlying25 sz5, hB2.agI Try.underlying25 sz5, hB2.apLd ag5, hB2.agLd ag5, hB2.eqnil Try.underlying25, hB2.nenil Try.underlying25, hB2.conv Try.underlying25 Try.underlying9 Try.underlying5]
            repeat (with_reducible refine And.intro ?_ ?_; · first | trivial | omega | (intro hg; simp only [Bool.and_eq_true, Bool.or_eq_true, Bool.not_eq_true', Bool.and_eq_false_iff, Bool.or_eq_false_iff, Bool.not_eq_false', decide_eq_true_eq, decide_eq_false_iff_not, eqNil] at hg; omega))
            apply hK; clear hK K
            refine awp_ret ?_
            try simp only [thenA_ret, inBlockA_ret]
            refine retA_ret _ (Sub.refl _) (resPre_tmp (resPre_nil)) ?_
            simp (decide := true) only [aOps_nil, ev, absV, absS, putD, Slots.put, Slots.get, Slots.keep, if_true, if_false, List.contains_cons, List.contains_nil, true_and, and_true, resOf_one, hB2.len Try.underlying25, hB2.apI Try.underlying25 sz5, hB2.agI Try.underlying25 sz5, hB2.apLd ag5, hB2.agLd ag5, hB2.eqnil Try.underlying25, hB2.nenil Try.underlying25, hB2.conv Try.underlying25 Try.underlying9 Try.underlying5]
            all_goals first | rfl | exact ⟨rfl, rfl⟩ | (simp (decide := true) only [if_true, if_false, *]; done) | (trace_state; fail)

theorem l_FitBad (w₀ : World) (h : AHeap) (v : AVal) (bs : List UInt8) (hb : IsB w₀ h v bs) (hl : bs.length ≤ 9223372036854775807) (n : Int) (h1 : n < 0 ∨ 1048576 < n) (left : Bool) :
    ACall Try.prog w₀ 6 [v, .int .i64 n, .bool left] h (fun x _ => x = .bool true) := by
  have hf : ACall Try.prog w₀ 13 [v, .int .i64 n, .bool left] h (fun x h' => x = .tuple [.nilSlice, .int .i64 (if n < 0 then 1 else 3)] ∧ h' = h) :=
    (c_fit w₀ h v bs n left hb hl).mono fun x h' hx => by
      rcases hx with ⟨e, rfl, rfl⟩ | ⟨e, rfl, rfl⟩ | ⟨e1, e2, _⟩
      · rw [if_pos e]; exact ⟨rfl, rfl⟩
      · rw [if_neg (by omega)]; exact ⟨rfl, rfl⟩
      · omega
  refine acall_intro (n := 116) (rs := [.tmp 6]) Try.func6 rfl rfl rfl rfl (Nat.le_of_ble_eq_true rfl) ?_
  simp only [initSlots]
  -- region 0  law.go:139
  refine awp_rseq [0, 1, 2] (by rfl) fun K hK => ?_
  simp (decide := true) only [aOps_nil, ev, absV, absS, putD, Slots.put, Slots.get, Slots.keep, if_true, if_false, List.contains_cons, List.contains_nil, true_and, and_true, ↓ap_assign, pop_assign, hb.len Try.underlying25, hb.apI Try.underlying25 sz5, hb.agI Try.underlying25 sz5, hb.apLd ag5, hb.agLd ag5, hb.eqnil Try.underlying25, hb.nenil Try.underlying25, hb.conv Try.underlying25 Try.underlying9 Try.underlying5]
  repeat (with_reducible refine And.intro ?_ ?_; · first | trivial | omega | (intro hg; simp only [Bool.and_eq_true, Bool.or_eq_true, Bool.not_eq_true', Bool.and_eq_false_iff, Bool.or_eq_false_iff, Bool.not_eq_false', decide_eq_true_eq, decide_eq_false_iff_not, eqNil] at hg; omega))
  apply hK; clear hK K
  refine awp_seq ?_
  -- region 1  law.go:140
  refine awp_rseq [0, 1, 2, 23] (by rfl) fun K hK => ?_
  simp (decide := true) only [aOps_nil, ev, absV, absS, putD, Slots.put, Slots.get, Slots.keep, if_true, if_false, List.contains_cons, List.contains_nil, true_and, and_true, ↓ap_move, pop_move, ↓ap_len, pop_len, pLen_slice Try.underlying25, pLen_nil Try.underlying25, ↓ap_binOp, pop_binOp, pBinX_int, pI_gtr, ↓ag_move, agP, agQ_some, gv, nthDst, gKnown_bool, gKnown_cond, guardB_cond, guardB_bool_true, guardB_bool_false, cv_cv, implies_true, Bool.not_not, decide_true, decide_false, Bool.not_false, Bool.not_true, condV_true, condV_false, forall_const, Bool.and_true, Bool.and_false, Bool.true_and, Bool.false_and, Bool.or_true, Bool.or_false, Bool.true_or, Bool.false_or, ↓ag_binOp, cv_binl, cv_binr, cp_binl, cp_binr, pI_leq, ↓ag_pick, pop_pick, pPick_bool, pickV_cond_l, pickV_cond_r, pickV_cond_rn, cp_nest1, cp_nest2, cp_nest3, cp_nest4, pickV_and, pickV_or, cv_pick, cp_pick, ↓ap_pick, hb.len Try.underlying25, hb.apI Try.underlying25 sz5, hb.agI Try.underlying25 sz5, hb.apLd ag5, hb.agLd ag5, hb.eqnil Try.underlying25, hb.nenil Try.underlying25, hb.conv Try.underlying25 Try.underlying9 Try.underlying5]
  repeat (with_reducible refine And.intro ?_ ?_; · first | trivial | omega | (intro hg; simp only [Bool.and_eq_true, Bool.or_eq_true, Bool.not_eq_true', Bool.and_eq_false_iff, Bool.or_eq_false_iff, Bool.not_eq_false', decide_eq_true_eq, decide_eq_false_iff_not, eqNil] at hg; omega))
  apply hK; clear hK K
  refine awp_cond (b := _) rfl (fun hb1 => ?_) (fun hb1 => ?_)
  · try simp only [decide_eq_true_eq, decide_eq_false_iff_not, Bool.not_eq_true', Bool.not_eq_false', Bool.and_eq_true, Bool.and_eq_false_iff, Bool.or_eq_true, Bool.or_eq_false_iff, Bool.true_eq, Bool.false_eq, reduceCtorEq] at hb1
    -- region 2  law.go:141
    refine awp_rseq [6] (by rfl) fun K hK => ?_
    refine aOps_callV (V := .bool true) (by rfl) (by rfl) (c_lives w₀ _) ?_
    simp (decide := true) only [aOps_nil, ev, absV, absS, putD, Slots.put, Slots.get, Slots.keep, if_true, if_false, List.contains_cons, List.contains_nil, true_and, and_true, ↓ap_assign, pop_assign, hb.len Try.underlying25, hb.apI Try.underlying25 sz5, hb.agI Try.underlying25 sz5, hb.apLd ag5, hb.agLd ag5, hb.eqnil Try.underlying25, hb.nenil Try.underlying25, hb.conv Try.underlying25 Try.underlying9 Try.underlying5]
    repeat (with_reducible refine And.intro ?_ ?_; · first | trivial | omega | (intro hg; simp only [Bool.and_eq_true, Bool.or_eq_true, Bool.not_eq_true', Bool.and_eq_false_iff, Bool.or_eq_false_iff, Bool.not_eq_false', decide_eq_true_eq, decide_eq_false_iff_not, eqNil] at hg; omega))
    apply hK; clear hK K
    refine awp_ret ?_
    try simp only [thenA_ret, inBlockA_ret]
    refine retA_ret _ (Sub.refl _) (resPre_tmp (resPre_nil)) ?_
    simp (decide := true) only [aOps_nil, ev, absV, absS, putD, Slots.put, Slots.get, Slots.keep, if_true, if_false, List.contains_cons, List.contains_nil, true_and, and_true, resOf_one, hb.len Try.underlying25, hb.apI Try.underlying25 sz5, hb.agI Try.underlying25 sz5, hb.apLd ag5, hb.agLd ag5, hb.eqnil Try.underlying25, hb.nenil Try.underlying25, hb.conv Try.underlying25 Try.underlying9 Try.underlying5]
    all_goals first | rfl | exact ⟨rfl, rfl⟩ | (simp (decide := true) only [if_true, if_false, *]; done) | (trace_state; fail)
  · try simp only [decide_eq_true_eq, decide_eq_false_iff_not, Bool.not_eq_true', Bool.not_eq_false', Bool.and_eq_true, Bool.and_eq_false_iff, Bool.or_eq_true, Bool.or_eq_false_iff, Bool.true_eq, Bool.false_eq, reduceCtorEq] at hb1
    refine awp_skip ?_
    change Awp _ _ _ _ _ _ _
    -- region 3  law.go:143
    refine awp_rseq [0, 1, 2, 7] (by rfl) fun K hK => ?_
    simp (decide := true) only [aOps_nil, ev, absV, absS, putD, Slots.put, Slots.get, Slots.keep, if_true, if_false, List.contains_cons, List.contains_nil, true_and, and_true, ↓ap_move, pop_move, ↓ap_convert _ _ _ (es_str Try.underlying25 Try.underlying9), pop_convert, pConv_nil Try.underlying25 Try.underlying9 Try.underlying5, pConv_bytes Try.underlying25 Try.underlying9 Try.underlying5, ↓ap_assign, pop_assign, hb.len Try.underlying25, hb.apI Try.underlying25 sz5, hb.agI Try.underlying25 sz5, hb.apLd ag5, hb.agLd ag5, hb.eqnil Try.underlying25, hb.nenil Try.underlying25, hb.conv Try.underlying25 Try.underlying9 Try.underlying5]
    try simp (disch := omega) only [wrap_i64, wrap_u8]
    repeat (with_reducible refine And.intro ?_ ?_; · first | trivial | omega | (intro hg; simp only [Bool.and_eq_true, Bool.or_eq_true, Bool.not_eq_true', Bool.and_eq_false_iff, Bool.or_eq_false_iff, Bool.not_eq_false', decide_eq_true_eq, decide_eq_false_iff_not, eqNil] at hg; omega))
    apply hK; clear hK K
    -- region 4  law.go:144
    refine awp_rseq [0, 1, 2, 7, 8, 9] (by rfl) fun K hK => ?_
    simp (decide := true) only [aOps_nil, ev, absV, absS, putD, Slots.put, Slots.get, Slots.keep, if_true, if_false, List.contains_cons, List.contains_nil, true_and, and_true, ↓ap_move, pop_move, hb.len Try.underlying25, hb.apI Try.underlying25 sz5, hb.agI Try.underlying25 sz5, hb.apLd ag5, hb.agLd ag5, hb.eqnil Try.underlying25, hb.nenil Try.underlying25, hb.conv Try.underlying25 Try.underlying9 Try.underlying5]
    repeat (with_reducible refine And.intro ?_ ?_; · first | trivial | omega | (intro hg; simp only [Bool.and_eq_true, Bool.or_eq_true, Bool.not_eq_true', Bool.and_eq_false_iff, Bool.or_eq_false_iff, Bool.not_eq_false', decide_eq_true_eq, decide_eq_false_iff_not, eqNil] at hg; omega))
    refine aOps_callV (V := .tuple [.nilSlice, .int .i64 (if n < 0 then 1 else 3)]) (by rfl) (by rfl) (hf) ?_
    simp (decide := true) only [aOps_nil, ev, absV, absS, putD, Slots.put, Slots.get, Slots.keep, if_true, if_false, List.contains_cons, List.contains_nil, true_and, and_true, ↓ap_move, pop_move, ↓ap_extract, pop_extract, pExt_tuple, List.length_cons, List.length_nil, List.getD_cons_zero, List.getD_cons_succ, ↓ap_assign, pop_assign, hb.len Try.underlying25, hb.apI Try.underlying25 sz5, hb.agI Try.underlying25 sz5, hb.apLd ag5, hb.agLd ag5, hb.eqnil Try.underlying25, hb.nenil Try.underlying25, hb.conv Try.underlying25 Try.underlying9 Try.underlying5]
    repeat (with_reducible refine And.intro ?_ ?_; · first | trivial | omega | (intro hg; simp only [Bool.and_eq_true, Bool.or_eq_true, Bool.not_eq_true', Bool.and_eq_false_iff, Bool.or_eq_false_iff, Bool.not_eq_false', decide_eq_true_eq, decide_eq_false_iff_not, eqNil] at hg; omega))
    apply hK; clear hK K
    refine awp_seq ?_
    -- region 5  law.go:145
    refine awp_rseq [0, 1, 2, 7, 8, 9, 35] (by rfl) fun K hK => ?_
    simp (decide := true) only [aOps_nil, ev, absV, absS, putD, Slots.put, Slots.get, Slots.keep, if_true, if_false, List.contains_cons, List.contains_nil, true_and, and_true, ↓ap_move, pop_move, ↓ap_binOp, pop_binOp, pBinX_int, pI_lss, hb.len Try.underlying25, hb.apI Try.underlying25 sz5, hb.agI Try.underlying25 sz5, hb.apLd ag5, hb.agLd ag5, hb.eqnil Try.underlying25, hb.nenil Try.underlying25, hb.conv Try.underlying25 Try.underlying9 Try.underlying5]
    repeat (with_reducible refine And.intro ?_ ?_; · first | trivial | omega | (intro hg; simp only [Bool.and_eq_true, Bool.or_eq_true, Bool.not_eq_true', Bool.and_eq_false_iff, Bool.or_eq_false_iff, Bool.not_eq_false', decide_eq_true_eq, decide_eq_false_iff_not, eqNil] at hg; omega))
    apply hK; clear hK K
    refine awp_cond (b := _) rfl (fun hb2 => ?_) (fun hb2 => ?_)
    · try simp only [decide_eq_true_eq, decide_eq_false_iff_not, Bool.not_eq_true', Bool.not_eq_false', Bool.and_eq_true, Bool.and_eq_false_iff, Bool.or_eq_true, Bool.or_eq_false_iff, Bool.true_eq, Bool.false_eq, reduceCtorEq] at hb2
      rw [if_pos hb2]
      -- region 6  law.go:146
      refine awp_rseq [6] (by rfl) fun K hK => ?_
      simp (decide := true) only [aOps_nil, ev, absV, absS, putD, Slots.put, Slots.get, Slots.keep, if_true, if_false, List.contains_cons, List.contains_nil, true_and, and_true, ↓ap_move, pop_move, ↓ap_binOp, pop_binOp, pBinX_int, pI_eql, ↓ag_move, agP, agQ_some, gv, nthDst, gKnown_bool, gKnown_cond, guardB_cond, guardB_bool_true, guardB_bool_false, cv_cv, implies_true, Bool.not_not, decide_true, decide_false, Bool.not_false, Bool.not_true, condV_true, condV_false, forall_const, Bool.and_true, Bool.and_false, Bool.true_and, Bool.false_and, Bool.or_true, Bool.or_false, Bool.true_or, Bool.false_or, ↓ag_len, pop_len, pLen_slice Try.underlying25, pLen_nil Try.underlying25, cv_len, cp_len, ↓ag_binOp, cv_binl, cv_binr, cp_binl, cp_binr, ↓ap_pick, pop_pick, pPick_bool, pickV_cond_l, pickV_cond_r, pickV_cond_rn, cp_nest1, cp_nest2, cp_nest3, cp_nest4, pickV_and, pickV_or, hb.len Try.underlying25, hb.apI Try.underlying25 sz5, hb.agI Try.underlying25 sz5, hb.apLd ag5, hb.agLd ag5, hb.eqnil Try.underlying25, hb.nenil Try.underlying25, hb.conv Try.underlying25 Try.underlying9 Try.underlying5]
      repeat (with_reducible refine And.intro ?_ ?_; · first | trivial | omega | (intro hg; simp only [Bool.and_eq_true, Bool.or_eq_true, Bool.not_eq_true', Bool.and_eq_false_iff, Bool.or_eq_false_iff, Bool.not_eq_false', decide_eq_true_eq, decide_eq_false_iff_not, eqNil] at hg; omega))
      first
      | (refine aOps_yes (by rfl) ?_; refine aOps_callV (V := .bool true) (by rfl) (by rfl) (c_lives w₀ _) ?_)
      | (refine aOps_gcall (V := .bool true) (f := _) (cap := _) (xs := _) rfl (fun hg => ⟨rfl, ?_⟩) (fun hg => c_lives w₀ _) ?_; · (simp (decide := true) only [gv, nthDst, Slots.get, if_true, if_false, guardB_bool_true, guardB_bool_false, guardB_cond, Bool.not_not] at hg; simp (decide := true) only [evs, ev, Slots.get, if_true, if_false, hg, condV_true, List.append_nil, List.map_cons, List.map_nil]))
      simp (decide := true) only [aOps_nil, ev, absV, absS, putD, Slots.put, Slots.get, Slots.keep, if_true, if_false, List.contains_cons, List.contains_nil, true_and, and_true, gv, nthDst, guardB_bool_true, guardB_bool_false, guardB_cond, ↓ap_pick, pop_pick, pPick_bool, pickV_cond_l, pickV_cond_r, pickV_cond_rn, cp_nest1, cp_nest2, cp_nest3, cp_nest4, pickV_and, pickV_or, ↓ap_assign, pop_assign, hb.len Try.underlying25, hb.apI Try.underlying25 sz5, hb.agI Try.underlying25 sz5, hb.apLd ag5, hb.agLd ag5, hb.eqnil Try.underlying25, hb.nenil Try.underlying25, hb.conv Try.underlying25 Try.underlying9 Try.underlying5]
      repeat (with_reducible refine And.intro ?_ ?_; · first | trivial | omega | (intro hg; simp only [Bool.and_eq_true, Bool.or_eq_true, Bool.not_eq_true', Bool.and_eq_false_iff, Bool.or_eq_false_iff, Bool.not_eq_false', decide_eq_true_eq, decide_eq_false_iff_not, eqNil] at hg; omega))
      apply hK; clear hK K
      refine awp_ret ?_
      try simp only [thenA_ret, inBlockA_ret]
      refine retA_ret _ (Sub.refl _) (resPre_tmp (resPre_nil)) ?_
      simp (decide := true) only [aOps_nil, ev, absV, absS, putD, Slots.put, Slots.get, Slots.keep, if_true, if_false, List.contains_cons, List.contains_nil, true_and, and_true, resOf_one, hb.len Try.underlying25, hb.apI Try.underlying25 sz5, hb.agI Try.underlying25 sz5, hb.apLd ag5, hb.agLd ag5, hb.eqnil Try.underlying25, hb.nenil Try.underlying25, hb.conv Try.underlying25 Try.underlying9 Try.underlying5]
      all_goals first | rfl | exact ⟨rfl, rfl⟩ | (simp (decide := true) only [if_true, if_false, *]; done) | (trace_state; fail)
    · try simp only [decide_eq_true_eq, decide_eq_false_iff_not, Bool.not_eq_true', Bool.not_eq_false', Bool.and_eq_true, Bool.and_eq_false_iff, Bool.or_eq_true, Bool.or_eq_false_iff, Bool.true_eq, Bool.false_eq, reduceCtorEq] at hb2
      rw [if_neg hb2]
      refine awp_skip ?_
      change Awp _ _ _ _ _ _ _
      refine awp_seq ?_
      -- region 7  law.go:148
      refine awp_rseq [0, 1, 2, 7, 8, 9, 47] (by rfl) fun K hK => ?_
      simp (decide := true) only [aOps_nil, ev, absV, absS, putD, Slots.put, Slots.get, Slots.keep, if_true, if_false, List.contains_cons, List.contains_nil, true_and, and_true, ↓ap_move, pop_move, ↓ap_binOp, pop_binOp, pBinX_int, pI_gtr, hb.len Try.underlying25, hb.apI Try.underlying25 sz5, hb.agI Try.underlying25 sz5, hb.apLd ag5, hb.agLd ag5, hb.eqnil Try.underlying25, hb.nenil Try.underlying25, hb.conv Try.underlying25 Try.underlying9 Try.underlying5]
      repeat (with_reducible refine And.intro ?_ ?_; · first | trivial | omega | (intro hg; simp only [Bool.and_eq_true, Bool.or_eq_true, Bool.not_eq_true', Bool.and_eq_false_iff, Bool.or_eq_false_iff, Bool.not_eq_false', decide_eq_true_eq, decide_eq_false_iff_not, eqNil] at hg; omega))
      apply hK; clear hK K
      refine awp_cond (b := _) rfl (fun hb3 => ?_) (fun hb3 => ?_)
      · try simp only [decide_eq_true_eq, decide_eq_false_iff_not, Bool.not_eq_true', Bool.not_eq_false', Bool.and_eq_true, Bool.and_eq_false_iff, Bool.or_eq_true, Bool.or_eq_false_iff, Bool.true_eq, Bool.false_eq, reduceCtorEq] at hb3
        -- region 8  law.go:149
        refine awp_rseq [6] (by rfl) fun K hK => ?_
        simp (decide := true) only [aOps_nil, ev, absV, absS, putD, Slots.put, Slots.get, Slots.keep, if_true, if_false, List.contains_cons, List.contains_nil, true_and, and_true, ↓ap_move, pop_move, ↓ap_binOp, pop_binOp, pBinX_int, pI_eql, ↓ag_move, agP, agQ_some, gv, nthDst, gKnown_bool, gKnown_cond, guardB_cond, guardB_bool_true, guardB_bool_false, cv_cv, implies_true, Bool.not_not, decide_true, decide_false, Bool.not_false, Bool.not_true, condV_true, condV_false, forall_const, Bool.and_true, Bool.and_false, Bool.true_and, Bool.false_and, Bool.or_true, Bool.or_false, Bool.true_or, Bool.false_or, ↓ag_len, pop_len, pLen_slice Try.underlying25, pLen_nil Try.underlying25, cv_len, cp_len, ↓ag_binOp, cv_binl, cv_binr, cp_binl, cp_binr, ↓ap_pick, pop_pick, pPick_bool, pickV_cond_l, pickV_cond_r, pickV_cond_rn, cp_nest1, cp_nest2, cp_nest3, cp_nest4, pickV_and, pickV_or, hb.len Try.underlying25, hb.apI Try.underlying25 sz5, hb.agI Try.underlying25 sz5, hb.apLd ag5, hb.agLd ag5, hb.eqnil Try.underlying25, hb.nenil Try.underlying25, hb.conv Try.underlying25 Try.underlying9 Try.underlying5]
        repeat (with_reducible refine And.intro ?_ ?_; · first | trivial | omega | (intro hg; simp only [Bool.and_eq_true, Bool.or_eq_true, Bool.not_eq_true', Bool.and_eq_false_iff, Bool.or_eq_false_iff, Bool.not_eq_false', decide_eq_true_eq, decide_eq_false_iff_not, eqNil] at hg; omega))
        first
        | (refine aOps_yes (by rfl) ?_; refine aOps_callV (V := .bool true) (by rfl) (by rfl) (c_lives w₀ _) ?_)
        | (refine aOps_gcall (V := .bool true) (f := _) (cap := _) (xs := _) rfl (fun hg => ⟨rfl, ?_⟩) (fun hg => c_lives w₀ _) ?_; · (simp (decide := true) only [gv, nthDst, Slots.get, if_true, if_false, guardB_bool_true, guardB_bool_false, guardB_cond, Bool.not_not] at hg; simp (decide := true) only [evs, ev, Slots.get, if_true, if_false, hg, condV_true, List.append_nil, List.map_cons, List.map_nil]))
        simp (decide := true) only [aOps_nil, ev, absV, absS, putD, Slots.put, Slots.get, Slots.keep, if_true, if_false, List.contains_cons, List.contains_nil, true_and, and_true, gv, nthDst, guardB_bool_true, guardB_bool_false, guardB_cond, ↓ap_pick, pop_pick, pPick_bool, pickV_cond_l, pickV_cond_r, pickV_cond_rn, cp_nest1, cp_nest2, cp_nest3, cp_nest4, pickV_and, pickV_or, ↓ap_assign, pop_assign, hb.len Try.underlying25, hb.apI Try.underlying25 sz5, hb.agI Try.underlying25 sz5, hb.apLd ag5, hb.agLd ag5, hb.eqnil Try.underlying25, hb.nenil Try.underlying25, hb.conv Try.underlying25 Try.underlying9 Try.underlying5]
        repeat (with_reducible refine And.intro ?_ ?_; · first | trivial | omega | (intro hg; simp only [Bool.and_eq_true, Bool.or_eq_true, Bool.not_eq_true', Bool.and_eq_false_iff, Bool.or_eq_false_iff, Bool.not_eq_false', decide_eq_true_eq, decide_eq_false_iff_not, eqNil] at hg; omega))
        apply hK; clear hK K
        refine awp_ret ?_
        try simp only [thenA_ret, inBlockA_ret]
        refine retA_ret _ (Sub.refl _) (resPre_tmp (resPre_nil)) ?_
        simp (decide := true) only [aOps_nil, ev, absV, absS, putD, Slots.put, Slots.get, Slots.keep, if_true, if_false, List.contains_cons, List.contains_nil, true_and, and_true, resOf_one, hb.len Try.underlying25, hb.apI Try.underlying25 sz5, hb.agI Try.underlying25 sz5, hb.apLd ag5, hb.agLd ag5, hb.eqnil Try.underlying25, hb.nenil Try.underlying25, hb.conv Try.underlying25 Try.underlying9 Try.underlying5]
        all_goals first | rfl | exact ⟨rfl, rfl⟩ | (simp (decide := true) only [if_true, if_false, *]; done) | (trace_state; fail)
      · try simp only [decide_eq_true_eq, decide_eq_false_iff_not, Bool.not_eq_true', Bool.not_eq_false', Bool.and_eq_true, Bool.and_eq_false_iff, Bool.or_eq_true, Bool.or_eq_false_iff, Bool.true_eq, Bool.false_eq, reduceCtorEq] at hb3
        omega

theorem l_CharsFit (w₀ : World) (h : AHeap) (v : AVal) (bs : List UInt8) (hb : IsB w₀ h v bs) (hl : bs.length ≤ 9223372036854775807) (hc : ∃ cap, v = .nilSlice ∨ ∃ l o, v = .slice l o bs.length (.exact cap))
    (n : Int) (h0 : -9223372036854775808 ≤ n) (h1 : n ≤ 9223372036854775807) (left : Bool) : ACall Try.prog w₀ 6 [v, .int .i64 n, .bool left] h (fun x _ => x = .bool true) := by
  by_cases h : n < 0 ∨ 1048576 < n
  · exact l_FitBad w₀ _ v bs hb hl n h left
  · have := l_FitOk w₀ _ v bs hb hl n.toNat (by omega) left
    rw [show ((n.toNat : Nat) : Int) = n by omega] at this
    exact this
end Go.Proofs.Ytmnlmfiokbnhhaa
