/-
  The plain law of Compare: it is an order of padded texts.
  Conditions: none.
-/
import Derived.Test.YtmnlmfiokbnhhaaChO
set_option linter.unusedSimpArgs false
set_option linter.unusedVariables false
namespace Go.Proofs.Ytmnlmfiokbnhhaa
open Go.AM
open Go.Proofs
set_option maxRecDepth 100000

/-- The bytes of a padded text from a place on. -/
def padR (a : List UInt8) : Nat → Nat → List UInt8
  | _, 0 => []
  | i, n + 1 => a.getD i 32 :: padR a (i + 1) n
def cmpL : List UInt8 → List UInt8 → Int
  | x :: xs, y :: ys => if (x.toNat : Int) < y.toNat then -1 else if (y.toNat : Int) < x.toNat then 1 else cmpL xs ys
  | _, _ => 0

theorem padR_length (a : List UInt8) : ∀ n i, (padR a i n).length = n
  | 0, _ => rfl
  | n + 1, i => by simp [padR, padR_length a n]
theorem cmpB_cmpL (a b : List UInt8) : ∀ n i, cmpB a b i n = cmpL (padR a i n) (padR b i n)
  | 0, _ => rfl
  | n + 1, i => by
    simp only [cmpB, padR, cmpL, cmpB_cmpL a b n]
    by_cases h1 : ((a.getD i 32).toNat : Int) < (b.getD i 32).toNat
    · simp only [cmp1, if_pos h1]
      exact if_neg (by decide)
    · by_cases h2 : ((b.getD i 32).toNat : Int) < (a.getD i 32).toNat
      · simp only [cmp1, if_neg h1, if_pos h2]
        exact if_neg (by decide)
      · simp only [cmp1, if_neg h1, if_neg h2, if_true]
theorem cmpL_bounds : ∀ xs ys, -1 ≤ cmpL xs ys ∧ cmpL xs ys ≤ 1
  | x :: xs, y :: ys => by
    have := cmpL_bounds xs ys
    simp only [cmpL]
    split
    · omega
    · split <;> omega
  | [], _ => by simp [cmpL]
  | _ :: _, [] => by simp [cmpL]
theorem cmpL_swap : ∀ xs ys, cmpL ys xs = - cmpL xs ys
  | x :: xs, y :: ys => by
    simp only [cmpL, cmpL_swap xs ys]
    split
    · rw [if_neg (by omega)]
    · split <;> simp
  | [], [] => rfl
  | [], _ :: _ => rfl
  | _ :: _, [] => rfl
theorem cmpL_zero : ∀ xs ys : List UInt8, xs.length = ys.length → (cmpL xs ys = 0 ↔ xs = ys)
  | x :: xs, y :: ys, hl => by
    simp only [cmpL]
    have ih := cmpL_zero xs ys (by simpa using hl)
    constructor
    · intro h
      split at h
      · cases h
      · split at h
        · cases h
        · rw [ih.1 h]
          have : x = y := UInt8.toNat_inj.1 (by omega)
          rw [this]
    · intro h
      cases h
      rw [if_neg (by omega), if_neg (by omega)]
      exact ih.2 rfl
  | [], [], _ => by simp [cmpL]
  | [], _ :: _, h => by simp at h
  | _ :: _, [], h => by simp at h
theorem cmpL_less : ∀ xs ys : List UInt8, xs.length = ys.length → Op.bytesLess xs ys = decide (cmpL xs ys < 0)
  | x :: xs, y :: ys, hl => by
    have ih := cmpL_less xs ys (by simpa using hl)
    simp only [Op.bytesLess, cmpL, ih]
    by_cases h1 : (x.toNat : Int) < y.toNat
    · have : x < y := UInt8.lt_iff_toNat_lt.2 (by omega)
      simp [h1, this]
    · have h1' : ¬ x < y := fun h => h1 (by have := UInt8.lt_iff_toNat_lt.1 h; omega)
      by_cases h2 : (y.toNat : Int) < x.toNat
      · have : ¬ x = y := fun h => by subst h; omega
        simp [h1, h1', h2, this]
      · have : x = y := UInt8.toNat_inj.1 (by omega)
        subst this
        simp
  | [], [], _ => by simp [cmpL, Op.bytesLess]
  | [], _ :: _, h => by simp at h
  | _ :: _, [], h => by simp at h
theorem cmpL_trans : ∀ xs ys zs : List UInt8, xs.length = ys.length → ys.length = zs.length → cmpL xs ys ≤ 0 → cmpL ys zs ≤ 0 → cmpL xs zs ≤ 0
  | x :: xs, y :: ys, z :: zs, h1, h2, h3, h4 => by
    have ih := cmpL_trans xs ys zs (by simpa using h1) (by simpa using h2)
    simp only [cmpL] at h3 h4 ⊢
    split
    · omega
    · split
      · split at h3 <;> split at h4 <;> first
          | omega
          | (split at h3 <;> split at h4 <;> omega)
          | (split at h3 <;> omega)
          | (split at h4 <;> omega)
      · split at h3
        · split at h4
          · omega
          · split at h4 <;> omega
        · split at h3
          · omega
          · split at h4
            · omega
            · split at h4
              · omega
              · exact ih h3 h4
  | [], _, _, _, _, _, _ => by simp [cmpL]
  | _ :: _, _, [], _, _, _, _ => by simp [cmpL]
  | _ :: _, [], _ :: _, h, _, _, _ => by simp at h
theorem cmp1_out (a b : List UInt8) (i : Nat) (h : max a.length b.length ≤ i) : cmp1 a b i = 0 := by
  have e1 : a.getD i 32 = 32 := by simp [List.getD, List.getElem?_eq_none (show a.length ≤ i by omega)]
  have e2 : b.getD i 32 = 32 := by simp [List.getD, List.getElem?_eq_none (show b.length ≤ i by omega)]
  rw [cmp1, e1, e2]; rfl
theorem cmpB_snoc (a b : List UInt8) : ∀ n i, cmpB a b i (n + 1) = if cmpB a b i n = 0 then cmp1 a b (i + n) else cmpB a b i n
  | 0, i => by
    simp only [cmpB, Nat.add_zero, if_true]
    by_cases h : cmp1 a b i = 0
    · rw [if_pos h, h]
    · rw [if_neg h]
  | n + 1, i => by
    have ih := cmpB_snoc a b n (i + 1)
    rw [show cmpB a b i (n + 1 + 1) = if cmp1 a b i = 0 then cmpB a b (i + 1) (n + 1) else cmp1 a b i from rfl, ih]
    rw [show cmpB a b i (n + 1) = if cmp1 a b i = 0 then cmpB a b (i + 1) n else cmp1 a b i from rfl]
    by_cases h : cmp1 a b i = 0
    · simp only [if_pos h]
      rw [show i + 1 + n = i + (n + 1) by omega]
    · simp only [if_neg h]
theorem cmpB_more (a b : List UInt8) (n : Nat) (h : max a.length b.length ≤ n) : ∀ k, cmpB a b 0 (n + k) = cmpB a b 0 n
  | 0 => rfl
  | k + 1 => by
    rw [show n + (k + 1) = (n + k) + 1 by omega, cmpB_snoc, cmpB_more a b n h k, cmp1_out a b _ (by omega)]
    split
    · rename_i e; rw [e]
    · rfl
theorem cmpB_at (a b : List UInt8) (n : Nat) (h : max a.length b.length ≤ n) : cmpB a b 0 (max a.length b.length) = cmpB a b 0 n := by
  have := cmpB_more a b (max a.length b.length) (Nat.le_refl _) (n - max a.length b.length)
  rw [show max a.length b.length + (n - max a.length b.length) = n by omega] at this
  exact this.symm
theorem cmpB_stop (a b : List UInt8) (i : Nat) (h : cmpB a b 0 i ≠ 0) : ∀ k, cmpB a b 0 (i + k) = cmpB a b 0 i
  | 0 => rfl
  | k + 1 => by rw [show i + (k + 1) = (i + k) + 1 by omega, cmpB_snoc, cmpB_stop a b i h k, if_neg h]

theorem padR_fit (a : List UInt8) (n : Nat) (h : a.length ≤ n) : padR a 0 n = fitB a n false := by
  have key : ∀ m i k, k < m → (padR a i m).getD k 0 = a.getD (i + k) 32 := by
    intro m
    induction m with
    | zero => intro i k hk; omega
    | succ m ih =>
      intro i k hk
      cases k with
      | zero => simp [padR]
      | succ k => rw [padR, List.getD_cons_succ, ih (i + 1) k (by omega)]; congr 1; omega
  refine ext_getD _ _ (by rw [padR_length, fitB_length]) fun i hi => ?_
  rw [padR_length] at hi
  rw [key n 0 i hi, Nat.zero_add, fitB_right a n i hi]
  by_cases h' : i < a.length
  · rw [if_pos h', List.getD, List.getD, List.getElem?_eq_getElem h']; rfl
  · rw [if_neg h', List.getD, List.getElem?_eq_none (by omega)]; rfl

theorem ord_swap (a b : List UInt8) : cmpB b a 0 (max b.length a.length) = - cmpB a b 0 (max a.length b.length) := by
  rw [Nat.max_comm b.length a.length, cmpB_cmpL, cmpB_cmpL, cmpL_swap]
theorem ord_bounds (a b : List UInt8) (n : Nat) : -1 ≤ cmpB a b 0 n ∧ cmpB a b 0 n ≤ 1 := by rw [cmpB_cmpL]; exact cmpL_bounds _ _
theorem ord_eq (a b : List UInt8) : decide (fitB a (max a.length b.length) false = fitB b (max a.length b.length) false) = decide (cmpB a b 0 (max a.length b.length) = 0) := by
  rw [cmpB_cmpL, ← padR_fit a _ (Nat.le_max_left _ _), ← padR_fit b _ (Nat.le_max_right _ _)]
  have := cmpL_zero (padR a 0 (max a.length b.length)) (padR b 0 (max a.length b.length)) (by rw [padR_length, padR_length])
  rw [Bool.eq_iff_iff, decide_eq_true_eq, decide_eq_true_eq, this]
theorem ord_less (a b : List UInt8) : Op.bytesLess (fitB a (max a.length b.length) false) (fitB b (max a.length b.length) false) = decide (cmpB a b 0 (max a.length b.length) < 0) := by
  rw [cmpB_cmpL, ← padR_fit a _ (Nat.le_max_left _ _), ← padR_fit b _ (Nat.le_max_right _ _)]
  exact cmpL_less _ _ (by rw [padR_length, padR_length])
theorem ord_trans (a b c : List UInt8) (h1 : cmpB a b 0 (max a.length b.length) ≤ 0) (h2 : cmpB b c 0 (max b.length c.length) ≤ 0) : cmpB a c 0 (max a.length c.length) ≤ 0 := by
  rw [cmpB_at a b (max a.length (max b.length c.length)) (by omega), cmpB_cmpL] at h1
  rw [cmpB_at b c (max a.length (max b.length c.length)) (by omega), cmpB_cmpL] at h2
  rw [cmpB_at a c (max a.length (max b.length c.length)) (by omega), cmpB_cmpL]
  exact cmpL_trans _ _ _ (by rw [padR_length, padR_length]) (by rw [padR_length, padR_length]) h1 h2
theorem cmpB_same (a b : List UInt8) (h : ∀ i, a.getD i 32 = b.getD i 32) : ∀ n i, cmpB a b i n = 0
  | 0, _ => rfl
  | n + 1, i => by
    have e : cmp1 a b i = 0 := by rw [cmp1, h i]; simp
    rw [cmpB, if_pos e]
    exact cmpB_same a b h n (i + 1)
theorem ord_trim (a : List UInt8) : cmpB a (a.take (trimN a a.length)) 0 (max a.length (a.take (trimN a a.length)).length) = 0 := by
  refine cmpB_same _ _ (fun i => ?_) _ _
  have hl := trimN_le a a.length
  by_cases h : i < trimN a a.length
  · simp [List.getD, List.getElem?_take, h]
  · by_cases h' : i < a.length
    · have := trimN_spaces a a.length i (by omega) h'
      simp only [List.getD, List.getElem?_take, h, if_false, List.getElem?_eq_getElem h', Option.getD_some] at this ⊢
      rw [this]; rfl
    · simp [List.getD, List.getElem?_take, h, List.getElem?_eq_none (show a.length ≤ i by omega)]
theorem ord_space (a : List UInt8) : cmpB a (a ++ [32]) 0 (max a.length (a ++ [32]).length) = 0 := by
  refine cmpB_same _ _ (fun i => ?_) _ _
  by_cases h : i < a.length
  · simp [List.getD, List.getElem?_append, h]
  · by_cases h' : i = a.length
    · subst h'; simp [List.getD]
    · simp only [List.getD]
      rw [List.getElem?_eq_none (by omega), List.getElem?_eq_none (by simp; omega)]

theorem l_CharsOrder (w₀ : World) (h : AHeap) (v : AVal) (a : List UInt8) (hv : IsB w₀ h v a) (la : a.length ≤ 9223372036854775807) (ca : ∃ cap, v = .nilSlice ∨ ∃ l o, v = .slice l o a.length (.exact cap))
    (w : AVal) (b : List UInt8) (hw : IsB w₀ h w b) (lb : b.length ≤ 9223372036854775807) (cb : ∃ cap, w = .nilSlice ∨ ∃ l o, w = .slice l o b.length (.exact cap))
    (u : AVal) (c : List UInt8) (hu : IsB w₀ h u c) (lc : c.length ≤ 9223372036854775807) (cc : ∃ cap, u = .nilSlice ∨ ∃ l o, u = .slice l o c.length (.exact cap)) :
    ACall Try.prog w₀ 4 [v, w, u] h (fun x _ => x = .bool true) := by
  refine acall_intro (n := 144) (rs := [.tmp 6]) Try.func4 rfl rfl rfl rfl (Nat.le_of_ble_eq_true rfl) ?_
  simp only [initSlots]
  -- region 0  law.go:87
  refine awp_rseq [0, 1, 2] (by rfl) fun K hK => ?_
  simp (decide := true) only [aOps_nil, ev, absV, absS, putD, Slots.put, Slots.get, Slots.keep, if_true, if_false, List.contains_cons, List.contains_nil, true_and, and_true, ↓ap_assign, pop_assign, hv.len Try.underlying25, hv.apI Try.underlying25 sz5, hv.agI Try.underlying25 sz5, hv.apLd ag5, hv.agLd ag5, hv.eqnil Try.underlying25, hv.nenil Try.underlying25, hv.conv Try.underlying25 Try.underlying9 Try.underlying5, hw.len Try.underlying25, hw.apI Try.underlying25 sz5, hw.agI Try.underlying25 sz5, hw.apLd ag5, hw.agLd ag5, hw.eqnil Try.underlying25, hw.nenil Try.underlying25, hw.conv Try.underlying25 Try.underlying9 Try.underlying5, hu.len Try.underlying25, hu.apI Try.underlying25 sz5, hu.agI Try.underlying25 sz5, hu.apLd ag5, hu.agLd ag5, hu.eqnil Try.underlying25, hu.nenil Try.underlying25, hu.conv Try.underlying25 Try.underlying9 Try.underlying5]
  repeat (with_reducible refine And.intro ?_ ?_; · first | trivial | omega | (intro hg; simp only [Bool.and_eq_true, Bool.or_eq_true, Bool.not_eq_true', Bool.and_eq_false_iff, Bool.or_eq_false_iff, Bool.not_eq_false', decide_eq_true_eq, decide_eq_false_iff_not, eqNil] at hg; omega))
  apply hK; clear hK K
  refine awp_seq ?_
  -- region 1  law.go:88
  refine awp_rseq [0, 1, 2, 26] (by rfl) fun K hK => ?_
  simp (decide := true) only [aOps_nil, ev, absV, absS, putD, Slots.put, Slots.get, Slots.keep, if_true, if_false, List.contains_cons, List.contains_nil, true_and, and_true, ↓ap_move, pop_move, ↓ap_len, pop_len, pLen_slice Try.underlying25, pLen_nil Try.underlying25, ↓ap_binOp, pop_binOp, pBinX_int, pI_gtr, ↓ag_move, agP, agQ_some, gv, nthDst, gKnown_bool, gKnown_cond, guardB_cond, guardB_bool_true, guardB_bool_false, cv_cv, implies_true, Bool.not_not, decide_true, decide_false, Bool.not_false, Bool.not_true, condV_true, condV_false, forall_const, Bool.and_true, Bool.and_false, Bool.true_and, Bool.false_and, Bool.or_true, Bool.or_false, Bool.true_or, Bool.false_or, ↓ag_len, cv_len, cp_len, ↓ag_binOp, cv_binl, cv_binr, cp_binl, cp_binr, ↓ap_pick, pop_pick, pPick_bool, pickV_cond_l, pickV_cond_r, pickV_cond_rn, cp_nest1, cp_nest2, cp_nest3, cp_nest4, pickV_and, pickV_or, hv.len Try.underlying25, hv.apI Try.underlying25 sz5, hv.agI Try.underlying25 sz5, hv.apLd ag5, hv.agLd ag5, hv.eqnil Try.underlying25, hv.nenil Try.underlying25, hv.conv Try.underlying25 Try.underlying9 Try.underlying5, hw.len Try.underlying25, hw.apI Try.underlying25 sz5, hw.agI Try.underlying25 sz5, hw.apLd ag5, hw.agLd ag5, hw.eqnil Try.underlying25, hw.nenil Try.underlying25, hw.conv Try.underlying25 Try.underlying9 Try.underlying5, hu.len Try.underlying25, hu.apI Try.underlying25 sz5, hu.agI Try.underlying25 sz5, hu.apLd ag5, hu.agLd ag5, hu.eqnil Try.underlying25, hu.nenil Try.underlying25, hu.conv Try.underlying25 Try.underlying9 Try.underlying5]
  repeat (with_reducible refine And.intro ?_ ?_; · first | trivial | omega | (intro hg; simp only [Bool.and_eq_true, Bool.or_eq_true, Bool.not_eq_true', Bool.and_eq_false_iff, Bool.or_eq_false_iff, Bool.not_eq_false', decide_eq_true_eq, decide_eq_false_iff_not, eqNil] at hg; omega))
  apply hK; clear hK K
  refine awp_cond (b := _) rfl (fun hb1 => ?_) (fun hb1 => ?_)
  · try simp only [decide_eq_true_eq, decide_eq_false_iff_not, Bool.not_eq_true', Bool.not_eq_false', Bool.and_eq_true, Bool.and_eq_false_iff, Bool.or_eq_true, Bool.or_eq_false_iff, Bool.true_eq, Bool.false_eq, reduceCtorEq] at hb1
    -- region 2  law.go:89
    refine awp_rseq [6] (by rfl) fun K hK => ?_
    refine aOps_callV (V := .bool true) (by rfl) (by rfl) (c_lives w₀ _) ?_
    simp (decide := true) only [aOps_nil, ev, absV, absS, putD, Slots.put, Slots.get, Slots.keep, if_true, if_false, List.contains_cons, List.contains_nil, true_and, and_true, ↓ap_assign, pop_assign, hv.len Try.underlying25, hv.apI Try.underlying25 sz5, hv.agI Try.underlying25 sz5, hv.apLd ag5, hv.agLd ag5, hv.eqnil Try.underlying25, hv.nenil Try.underlying25, hv.conv Try.underlying25 Try.underlying9 Try.underlying5, hw.len Try.underlying25, hw.apI Try.underlying25 sz5, hw.agI Try.underlying25 sz5, hw.apLd ag5, hw.agLd ag5, hw.eqnil Try.underlying25, hw.nenil Try.underlying25, hw.conv Try.underlying25 Try.underlying9 Try.underlying5, hu.len Try.underlying25, hu.apI Try.underlying25 sz5, hu.agI Try.underlying25 sz5, hu.apLd ag5, hu.agLd ag5, hu.eqnil Try.underlying25, hu.nenil Try.underlying25, hu.conv Try.underlying25 Try.underlying9 Try.underlying5]
    repeat (with_reducible refine And.intro ?_ ?_; · first | trivial | omega | (intro hg; simp only [Bool.and_eq_true, Bool.or_eq_true, Bool.not_eq_true', Bool.and_eq_false_iff, Bool.or_eq_false_iff, Bool.not_eq_false', decide_eq_true_eq, decide_eq_false_iff_not, eqNil] at hg; omega))
    apply hK; clear hK K
    refine awp_ret ?_
    try simp only [thenA_ret, inBlockA_ret]
    refine retA_ret _ (Sub.refl _) (resPre_tmp (resPre_nil)) ?_
    simp (decide := true) only [aOps_nil, ev, absV, absS, putD, Slots.put, Slots.get, Slots.keep, if_true, if_false, List.contains_cons, List.contains_nil, true_and, and_true, resOf_one, hv.len Try.underlying25, hv.apI Try.underlying25 sz5, hv.agI Try.underlying25 sz5, hv.apLd ag5, hv.agLd ag5, hv.eqnil Try.underlying25, hv.nenil Try.underlying25, hv.conv Try.underlying25 Try.underlying9 Try.underlying5, hw.len Try.underlying25, hw.apI Try.underlying25 sz5, hw.agI Try.underlying25 sz5, hw.apLd ag5, hw.agLd ag5, hw.eqnil Try.underlying25, hw.nenil Try.underlying25, hw.conv Try.underlying25 Try.underlying9 Try.underlying5, hu.len Try.underlying25, hu.apI Try.underlying25 sz5, hu.agI Try.underlying25 sz5, hu.apLd ag5, hu.agLd ag5, hu.eqnil Try.underlying25, hu.nenil Try.underlying25, hu.conv Try.underlying25 Try.underlying9 Try.underlying5]
    all_goals first | rfl | exact ⟨rfl, rfl⟩ | (simp (decide := true) only [if_true, if_false, *]; done) | (trace_state; fail)
  · try simp only [decide_eq_true_eq, decide_eq_false_iff_not, Bool.not_eq_true', Bool.not_eq_false', Bool.and_eq_true, Bool.and_eq_false_iff, Bool.or_eq_true, Bool.or_eq_false_iff, Bool.true_eq, Bool.false_eq, reduceCtorEq] at hb1
    refine awp_skip ?_
    change Awp _ _ _ _ _ _ _
    -- region 3  law.go:91
    refine awp_rseq [0, 1, 2, 7] (by rfl) fun K hK => ?_
    simp (decide := true) only [aOps_nil, ev, absV, absS, putD, Slots.put, Slots.get, Slots.keep, if_true, if_false, List.contains_cons, List.contains_nil, true_and, and_true, ↓ap_assign, pop_assign, hv.len Try.underlying25, hv.apI Try.underlying25 sz5, hv.agI Try.underlying25 sz5, hv.apLd ag5, hv.agLd ag5, hv.eqnil Try.underlying25, hv.nenil Try.underlying25, hv.conv Try.underlying25 Try.underlying9 Try.underlying5, hw.len Try.underlying25, hw.apI Try.underlying25 sz5, hw.agI Try.underlying25 sz5, hw.apLd ag5, hw.agLd ag5, hw.eqnil Try.underlying25, hw.nenil Try.underlying25, hw.conv Try.underlying25 Try.underlying9 Try.underlying5, hu.len Try.underlying25, hu.apI Try.underlying25 sz5, hu.agI Try.underlying25 sz5, hu.apLd ag5, hu.agLd ag5, hu.eqnil Try.underlying25, hu.nenil Try.underlying25, hu.conv Try.underlying25 Try.underlying9 Try.underlying5]
    repeat (with_reducible refine And.intro ?_ ?_; · first | trivial | omega | (intro hg; simp only [Bool.and_eq_true, Bool.or_eq_true, Bool.not_eq_true', Bool.and_eq_false_iff, Bool.or_eq_false_iff, Bool.not_eq_false', decide_eq_true_eq, decide_eq_false_iff_not, eqNil] at hg; omega))
    apply hK; clear hK K
    refine awp_seq ?_
    -- region 4  law.go:92
    refine awp_rseq [0, 1, 2, 7, 8] (by rfl) fun K hK => ?_
    simp (decide := true) only [aOps_nil, ev, absV, absS, putD, Slots.put, Slots.get, Slots.keep, if_true, if_false, List.contains_cons, List.contains_nil, true_and, and_true, ↓ap_assign, pop_assign, hv.len Try.underlying25, hv.apI Try.underlying25 sz5, hv.agI Try.underlying25 sz5, hv.apLd ag5, hv.agLd ag5, hv.eqnil Try.underlying25, hv.nenil Try.underlying25, hv.conv Try.underlying25 Try.underlying9 Try.underlying5, hw.len Try.underlying25, hw.apI Try.underlying25 sz5, hw.agI Try.underlying25 sz5, hw.apLd ag5, hw.agLd ag5, hw.eqnil Try.underlying25, hw.nenil Try.underlying25, hw.conv Try.underlying25 Try.underlying9 Try.underlying5, hu.len Try.underlying25, hu.apI Try.underlying25 sz5, hu.agI Try.underlying25 sz5, hu.apLd ag5, hu.agLd ag5, hu.eqnil Try.underlying25, hu.nenil Try.underlying25, hu.conv Try.underlying25 Try.underlying9 Try.underlying5]
    repeat (with_reducible refine And.intro ?_ ?_; · first | trivial | omega | (intro hg; simp only [Bool.and_eq_true, Bool.or_eq_true, Bool.not_eq_true', Bool.and_eq_false_iff, Bool.or_eq_false_iff, Bool.not_eq_false', decide_eq_true_eq, decide_eq_false_iff_not, eqNil] at hg; omega))
    apply hK; clear hK K
    refine awp_block ?_
    refine awp_loopG [0, 1, 2, 7, 8] (fun i : Nat => [(0, v), (1, w), (2, u), (7, .int .i64 (cmpB a b 0 i)), (8, .int .i64 i)]) (fun i : Nat => h) (fun i : Nat => i ≤ max a.length b.length) (fun i : Nat => max a.length b.length - i) 0 rfl (Sub.refl _) (Nat.zero_le _) ?_
    rintro i hi1
    have hsn := cmpB_snoc a b i 0
    rw [Nat.zero_add] at hsn
    refine awp_seq ?_
    -- region 5  law.go:92
    refine awp_rseq [0, 1, 2, 7, 8, 38] (by rfl) fun K hK => ?_
    simp (decide := true) only [aOps_nil, ev, absV, absS, putD, Slots.put, Slots.get, Slots.keep, if_true, if_false, List.contains_cons, List.contains_nil, true_and, and_true, ↓ap_move, pop_move, ↓ap_len, pop_len, pLen_slice Try.underlying25, pLen_nil Try.underlying25, ↓ap_max, pop_max, pMax_int, evs, List.map_cons, List.map_nil, ↓ap_binOp, pop_binOp, pBinX_int, pI_lss, ↓ag_move, agP, agQ_some, gv, nthDst, gKnown_bool, gKnown_cond, guardB_cond, guardB_bool_true, guardB_bool_false, cv_cv, implies_true, Bool.not_not, decide_true, decide_false, Bool.not_false, Bool.not_true, condV_true, condV_false, forall_const, Bool.and_true, Bool.and_false, Bool.true_and, Bool.false_and, Bool.or_true, Bool.or_false, Bool.true_or, Bool.false_or, ↓ag_binOp, cv_binl, cv_binr, cp_binl, cp_binr, pI_eql, ↓ap_pick, pop_pick, pPick_bool, pickV_cond_l, pickV_cond_r, pickV_cond_rn, cp_nest1, cp_nest2, cp_nest3, cp_nest4, pickV_and, pickV_or, hv.len Try.underlying25, hv.apI Try.underlying25 sz5, hv.agI Try.underlying25 sz5, hv.apLd ag5, hv.agLd ag5, hv.eqnil Try.underlying25, hv.nenil Try.underlying25, hv.conv Try.underlying25 Try.underlying9 Try.underlying5, hw.len Try.underlying25, hw.apI Try.underlying25 sz5, hw.agI Try.underlying25 sz5, hw.apLd ag5, hw.agLd ag5, hw.eqnil Try.underlying25, hw.nenil Try.underlying25, hw.conv Try.underlying25 Try.underlying9 Try.underlying5, hu.len Try.underlying25, hu.apI Try.underlying25 sz5, hu.agI Try.underlying25 sz5, hu.apLd ag5, hu.agLd ag5, hu.eqnil Try.underlying25, hu.nenil Try.underlying25, hu.conv Try.underlying25 Try.underlying9 Try.underlying5]
    repeat (with_reducible refine And.intro ?_ ?_; · first | trivial | omega | (intro hg; simp only [Bool.and_eq_true, Bool.or_eq_true, Bool.not_eq_true', Bool.and_eq_false_iff, Bool.or_eq_false_iff, Bool.not_eq_false', decide_eq_true_eq, decide_eq_false_iff_not, eqNil] at hg; omega))
    apply hK; clear hK K
    refine awp_cond (b := _) rfl (fun hb2 => ?_) (fun hb2 => ?_)
    · try simp only [decide_eq_true_eq, decide_eq_false_iff_not, Bool.not_eq_true', Bool.not_eq_false', Bool.and_eq_true, Bool.and_eq_false_iff, Bool.or_eq_true, Bool.or_eq_false_iff, Bool.true_eq, Bool.false_eq, reduceCtorEq] at hb2
      refine awp_skip ?_
      change Awp _ _ _ _ _ _ _
      refine awp_seq ?_
      refine awp_block ?_
      refine awp_seq ?_
      -- region 7  law.go:93
      refine awp_rseq [0, 1, 2, 7, 8, 47] (by rfl) fun K hK => ?_
      simp (decide := true) only [aOps_nil, ev, absV, absS, putD, Slots.put, Slots.get, Slots.keep, if_true, if_false, List.contains_cons, List.contains_nil, true_and, and_true, ↓ap_move, pop_move, hv.len Try.underlying25, hv.apI Try.underlying25 sz5, hv.agI Try.underlying25 sz5, hv.apLd ag5, hv.agLd ag5, hv.eqnil Try.underlying25, hv.nenil Try.underlying25, hv.conv Try.underlying25 Try.underlying9 Try.underlying5, hw.len Try.underlying25, hw.apI Try.underlying25 sz5, hw.agI Try.underlying25 sz5, hw.apLd ag5, hw.agLd ag5, hw.eqnil Try.underlying25, hw.nenil Try.underlying25, hw.conv Try.underlying25 Try.underlying9 Try.underlying5, hu.len Try.underlying25, hu.apI Try.underlying25 sz5, hu.agI Try.underlying25 sz5, hu.apLd ag5, hu.agLd ag5, hu.eqnil Try.underlying25, hu.nenil Try.underlying25, hu.conv Try.underlying25 Try.underlying9 Try.underlying5]
      repeat (with_reducible refine And.intro ?_ ?_; · first | trivial | omega | (intro hg; simp only [Bool.and_eq_true, Bool.or_eq_true, Bool.not_eq_true', Bool.and_eq_false_iff, Bool.or_eq_false_iff, Bool.not_eq_false', decide_eq_true_eq, decide_eq_false_iff_not, eqNil] at hg; omega))
      refine aOps_callV (V := .int .u8 (a.getD i 32).toNat) (by rfl) (by rfl) (c_at w₀ _ v a hv i) ?_
      simp (decide := true) only [aOps_nil, ev, absV, absS, putD, Slots.put, Slots.get, Slots.keep, if_true, if_false, List.contains_cons, List.contains_nil, true_and, and_true, ↓ap_move, pop_move, hv.len Try.underlying25, hv.apI Try.underlying25 sz5, hv.agI Try.underlying25 sz5, hv.apLd ag5, hv.agLd ag5, hv.eqnil Try.underlying25, hv.nenil Try.underlying25, hv.conv Try.underlying25 Try.underlying9 Try.underlying5, hw.len Try.underlying25, hw.apI Try.underlying25 sz5, hw.agI Try.underlying25 sz5, hw.apLd ag5, hw.agLd ag5, hw.eqnil Try.underlying25, hw.nenil Try.underlying25, hw.conv Try.underlying25 Try.underlying9 Try.underlying5, hu.len Try.underlying25, hu.apI Try.underlying25 sz5, hu.agI Try.underlying25 sz5, hu.apLd ag5, hu.agLd ag5, hu.eqnil Try.underlying25, hu.nenil Try.underlying25, hu.conv Try.underlying25 Try.underlying9 Try.underlying5]
      repeat (with_reducible refine And.intro ?_ ?_; · first | trivial | omega | (intro hg; simp only [Bool.and_eq_true, Bool.or_eq_true, Bool.not_eq_true', Bool.and_eq_false_iff, Bool.or_eq_false_iff, Bool.not_eq_false', decide_eq_true_eq, decide_eq_false_iff_not, eqNil] at hg; omega))
      refine aOps_callV (V := .int .u8 (b.getD i 32).toNat) (by rfl) (by rfl) (c_at w₀ _ w b hw i) ?_
      simp (decide := true) only [aOps_nil, ev, absV, absS, putD, Slots.put, Slots.get, Slots.keep, if_true, if_false, List.contains_cons, List.contains_nil, true_and, and_true, ↓ap_binOp, pop_binOp, pBinX_int, pI_lss, hv.len Try.underlying25, hv.apI Try.underlying25 sz5, hv.agI Try.underlying25 sz5, hv.apLd ag5, hv.agLd ag5, hv.eqnil Try.underlying25, hv.nenil Try.underlying25, hv.conv Try.underlying25 Try.underlying9 Try.underlying5, hw.len Try.underlying25, hw.apI Try.underlying25 sz5, hw.agI Try.underlying25 sz5, hw.apLd ag5, hw.agLd ag5, hw.eqnil Try.underlying25, hw.nenil Try.underlying25, hw.conv Try.underlying25 Try.underlying9 Try.underlying5, hu.len Try.underlying25, hu.apI Try.underlying25 sz5, hu.agI Try.underlying25 sz5, hu.apLd ag5, hu.agLd ag5, hu.eqnil Try.underlying25, hu.nenil Try.underlying25, hu.conv Try.underlying25 Try.underlying9 Try.underlying5]
      repeat (with_reducible refine And.intro ?_ ?_; · first | trivial | omega | (intro hg; simp only [Bool.and_eq_true, Bool.or_eq_true, Bool.not_eq_true', Bool.and_eq_false_iff, Bool.or_eq_false_iff, Bool.not_eq_false', decide_eq_true_eq, decide_eq_false_iff_not, eqNil] at hg; omega))
      apply hK; clear hK K
      refine awp_cond (b := _) rfl (fun hb3 => ?_) (fun hb3 => ?_)
      · try simp only [decide_eq_true_eq, decide_eq_false_iff_not, Bool.not_eq_true', Bool.not_eq_false', Bool.and_eq_true, Bool.and_eq_false_iff, Bool.or_eq_true, Bool.or_eq_false_iff, Bool.true_eq, Bool.false_eq, reduceCtorEq] at hb3
        -- region 8  law.go:94
        refine awp_r [0, 1, 2, 7, 8] (by rfl) ?_
        simp (decide := true) only [aOps_nil, ev, absV, absS, putD, Slots.put, Slots.get, Slots.keep, if_true, if_false, List.contains_cons, List.contains_nil, true_and, and_true, ↓ap_assign, pop_assign, hv.len Try.underlying25, hv.apI Try.underlying25 sz5, hv.agI Try.underlying25 sz5, hv.apLd ag5, hv.agLd ag5, hv.eqnil Try.underlying25, hv.nenil Try.underlying25, hv.conv Try.underlying25 Try.underlying9 Try.underlying5, hw.len Try.underlying25, hw.apI Try.underlying25 sz5, hw.agI Try.underlying25 sz5, hw.apLd ag5, hw.agLd ag5, hw.eqnil Try.underlying25, hw.nenil Try.underlying25, hw.conv Try.underlying25 Try.underlying9 Try.underlying5, hu.len Try.underlying25, hu.apI Try.underlying25 sz5, hu.agI Try.underlying25 sz5, hu.apLd ag5, hu.agLd ag5, hu.eqnil Try.underlying25, hu.nenil Try.underlying25, hu.conv Try.underlying25 Try.underlying9 Try.underlying5]
        repeat (with_reducible refine And.intro ?_ ?_; · first | trivial | omega | (intro hg; simp only [Bool.and_eq_true, Bool.or_eq_true, Bool.not_eq_true', Bool.and_eq_false_iff, Bool.or_eq_false_iff, Bool.not_eq_false', decide_eq_true_eq, decide_eq_false_iff_not, eqNil] at hg; omega))
        change Awp _ _ _ _ _ _ _
        -- region 9  law.go:96
        refine awp_rseq [0, 1, 2, 7, 8, 54] (by rfl) fun K hK => ?_
        simp (decide := true) only [aOps_nil, ev, absV, absS, putD, Slots.put, Slots.get, Slots.keep, if_true, if_false, List.contains_cons, List.contains_nil, true_and, and_true, ↓ap_move, pop_move, hv.len Try.underlying25, hv.apI Try.underlying25 sz5, hv.agI Try.underlying25 sz5, hv.apLd ag5, hv.agLd ag5, hv.eqnil Try.underlying25, hv.nenil Try.underlying25, hv.conv Try.underlying25 Try.underlying9 Try.underlying5, hw.len Try.underlying25, hw.apI Try.underlying25 sz5, hw.agI Try.underlying25 sz5, hw.apLd ag5, hw.agLd ag5, hw.eqnil Try.underlying25, hw.nenil Try.underlying25, hw.conv Try.underlying25 Try.underlying9 Try.underlying5, hu.len Try.underlying25, hu.apI Try.underlying25 sz5, hu.agI Try.underlying25 sz5, hu.apLd ag5, hu.agLd ag5, hu.eqnil Try.underlying25, hu.nenil Try.underlying25, hu.conv Try.underlying25 Try.underlying9 Try.underlying5]
        repeat (with_reducible refine And.intro ?_ ?_; · first | trivial | omega | (intro hg; simp only [Bool.and_eq_true, Bool.or_eq_true, Bool.not_eq_true', Bool.and_eq_false_iff, Bool.or_eq_false_iff, Bool.not_eq_false', decide_eq_true_eq, decide_eq_false_iff_not, eqNil] at hg; omega))
        refine aOps_callV (V := .int .u8 (a.getD i 32).toNat) (by rfl) (by rfl) (c_at w₀ _ v a hv i) ?_
        simp (decide := true) only [aOps_nil, ev, absV, absS, putD, Slots.put, Slots.get, Slots.keep, if_true, if_false, List.contains_cons, List.contains_nil, true_and, and_true, ↓ap_move, pop_move, hv.len Try.underlying25, hv.apI Try.underlying25 sz5, hv.agI Try.underlying25 sz5, hv.apLd ag5, hv.agLd ag5, hv.eqnil Try.underlying25, hv.nenil Try.underlying25, hv.conv Try.underlying25 Try.underlying9 Try.underlying5, hw.len Try.underlying25, hw.apI Try.underlying25 sz5, hw.agI Try.underlying25 sz5, hw.apLd ag5, hw.agLd ag5, hw.eqnil Try.underlying25, hw.nenil Try.underlying25, hw.conv Try.underlying25 Try.underlying9 Try.underlying5, hu.len Try.underlying25, hu.apI Try.underlying25 sz5, hu.agI Try.underlying25 sz5, hu.apLd ag5, hu.agLd ag5, hu.eqnil Try.underlying25, hu.nenil Try.underlying25, hu.conv Try.underlying25 Try.underlying9 Try.underlying5]
        repeat (with_reducible refine And.intro ?_ ?_; · first | trivial | omega | (intro hg; simp only [Bool.and_eq_true, Bool.or_eq_true, Bool.not_eq_true', Bool.and_eq_false_iff, Bool.or_eq_false_iff, Bool.not_eq_false', decide_eq_true_eq, decide_eq_false_iff_not, eqNil] at hg; omega))
        refine aOps_callV (V := .int .u8 (b.getD i 32).toNat) (by rfl) (by rfl) (c_at w₀ _ w b hw i) ?_
        simp (decide := true) only [aOps_nil, ev, absV, absS, putD, Slots.put, Slots.get, Slots.keep, if_true, if_false, List.contains_cons, List.contains_nil, true_and, and_true, ↓ap_binOp, pop_binOp, pBinX_int, pI_gtr, hv.len Try.underlying25, hv.apI Try.underlying25 sz5, hv.agI Try.underlying25 sz5, hv.apLd ag5, hv.agLd ag5, hv.eqnil Try.underlying25, hv.nenil Try.underlying25, hv.conv Try.underlying25 Try.underlying9 Try.underlying5, hw.len Try.underlying25, hw.apI Try.underlying25 sz5, hw.agI Try.underlying25 sz5, hw.apLd ag5, hw.agLd ag5, hw.eqnil Try.underlying25, hw.nenil Try.underlying25, hw.conv Try.underlying25 Try.underlying9 Try.underlying5, hu.len Try.underlying25, hu.apI Try.underlying25 sz5, hu.agI Try.underlying25 sz5, hu.apLd ag5, hu.agLd ag5, hu.eqnil Try.underlying25, hu.nenil Try.underlying25, hu.conv Try.underlying25 Try.underlying9 Try.underlying5]
        repeat (with_reducible refine And.intro ?_ ?_; · first | trivial | omega | (intro hg; simp only [Bool.and_eq_true, Bool.or_eq_true, Bool.not_eq_true', Bool.and_eq_false_iff, Bool.or_eq_false_iff, Bool.not_eq_false', decide_eq_true_eq, decide_eq_false_iff_not, eqNil] at hg; omega))
        apply hK; clear hK K
        refine awp_cond (b := _) rfl (fun hb4 => ?_) (fun hb4 => ?_)
        · try simp only [decide_eq_true_eq, decide_eq_false_iff_not, Bool.not_eq_true', Bool.not_eq_false', Bool.and_eq_true, Bool.and_eq_false_iff, Bool.or_eq_true, Bool.or_eq_false_iff, Bool.true_eq, Bool.false_eq, reduceCtorEq] at hb4
          -- region 10  law.go:97
          refine awp_r [0, 1, 2, 7, 8] (by rfl) ?_
          simp (decide := true) only [aOps_nil, ev, absV, absS, putD, Slots.put, Slots.get, Slots.keep, if_true, if_false, List.contains_cons, List.contains_nil, true_and, and_true, ↓ap_assign, pop_assign, hv.len Try.underlying25, hv.apI Try.underlying25 sz5, hv.agI Try.underlying25 sz5, hv.apLd ag5, hv.agLd ag5, hv.eqnil Try.underlying25, hv.nenil Try.underlying25, hv.conv Try.underlying25 Try.underlying9 Try.underlying5, hw.len Try.underlying25, hw.apI Try.underlying25 sz5, hw.agI Try.underlying25 sz5, hw.apLd ag5, hw.agLd ag5, hw.eqnil Try.underlying25, hw.nenil Try.underlying25, hw.conv Try.underlying25 Try.underlying9 Try.underlying5, hu.len Try.underlying25, hu.apI Try.underlying25 sz5, hu.agI Try.underlying25 sz5, hu.apLd ag5, hu.agLd ag5, hu.eqnil Try.underlying25, hu.nenil Try.underlying25, hu.conv Try.underlying25 Try.underlying9 Try.underlying5]
          repeat (with_reducible refine And.intro ?_ ?_; · first | trivial | omega | (intro hg; simp only [Bool.and_eq_true, Bool.or_eq_true, Bool.not_eq_true', Bool.and_eq_false_iff, Bool.or_eq_false_iff, Bool.not_eq_false', decide_eq_true_eq, decide_eq_false_iff_not, eqNil] at hg; omega))
          change Awp _ _ _ _ _ _ _
          -- region 6  law.go:92
          refine awp_r [0, 1, 2, 7, 8] (by rfl) ?_
          simp (decide := true) only [aOps_nil, ev, absV, absS, putD, Slots.put, Slots.get, Slots.keep, if_true, if_false, List.contains_cons, List.contains_nil, true_and, and_true, ↓ap_move, pop_move, ↓ap_binOp, pop_binOp, pBinX_int, pI_add, ↓ap_assign, pop_assign, hv.len Try.underlying25, hv.apI Try.underlying25 sz5, hv.agI Try.underlying25 sz5, hv.apLd ag5, hv.agLd ag5, hv.eqnil Try.underlying25, hv.nenil Try.underlying25, hv.conv Try.underlying25 Try.underlying9 Try.underlying5, hw.len Try.underlying25, hw.apI Try.underlying25 sz5, hw.agI Try.underlying25 sz5, hw.apLd ag5, hw.agLd ag5, hw.eqnil Try.underlying25, hw.nenil Try.underlying25, hw.conv Try.underlying25 Try.underlying9 Try.underlying5, hu.len Try.underlying25, hu.apI Try.underlying25 sz5, hu.agI Try.underlying25 sz5, hu.apLd ag5, hu.agLd ag5, hu.eqnil Try.underlying25, hu.nenil Try.underlying25, hu.conv Try.underlying25 Try.underlying9 Try.underlying5]
          try simp (disch := omega) only [wrap_i64, wrap_u8]
          repeat (with_reducible refine And.intro ?_ ?_; · first | trivial | omega | (intro hg; simp only [Bool.and_eq_true, Bool.or_eq_true, Bool.not_eq_true', Bool.and_eq_false_iff, Bool.or_eq_false_iff, Bool.not_eq_false', decide_eq_true_eq, decide_eq_false_iff_not, eqNil] at hg; omega))
          try simp only [thenA_normal, inBlockA_normal]
          rw [if_pos hb2.2] at hsn
          refine ⟨i + 1, ?_, Sub.refl _, by omega, by omega⟩
          rw [hsn, cmp1]
          first
          | (rw [if_pos (by omega)]; first | rfl | omega)
          | (rw [if_neg (by omega), if_pos (by omega)]; rfl)
          | (rw [if_neg (by omega), if_neg (by omega)]; have e := hb2.2; rw [e]; rfl)
        · try simp only [decide_eq_true_eq, decide_eq_false_iff_not, Bool.not_eq_true', Bool.not_eq_false', Bool.and_eq_true, Bool.and_eq_false_iff, Bool.or_eq_true, Bool.or_eq_false_iff, Bool.true_eq, Bool.false_eq, reduceCtorEq] at hb4
          refine awp_skip ?_
          change Awp _ _ _ _ _ _ _
          -- region 6  law.go:92
          refine awp_r [0, 1, 2, 7, 8] (by rfl) ?_
          simp (decide := true) only [aOps_nil, ev, absV, absS, putD, Slots.put, Slots.get, Slots.keep, if_true, if_false, List.contains_cons, List.contains_nil, true_and, and_true, ↓ap_move, pop_move, ↓ap_binOp, pop_binOp, pBinX_int, pI_add, ↓ap_assign, pop_assign, hv.len Try.underlying25, hv.apI Try.underlying25 sz5, hv.agI Try.underlying25 sz5, hv.apLd ag5, hv.agLd ag5, hv.eqnil Try.underlying25, hv.nenil Try.underlying25, hv.conv Try.underlying25 Try.underlying9 Try.underlying5, hw.len Try.underlying25, hw.apI Try.underlying25 sz5, hw.agI Try.underlying25 sz5, hw.apLd ag5, hw.agLd ag5, hw.eqnil Try.underlying25, hw.nenil Try.underlying25, hw.conv Try.underlying25 Try.underlying9 Try.underlying5, hu.len Try.underlying25, hu.apI Try.underlying25 sz5, hu.agI Try.underlying25 sz5, hu.apLd ag5, hu.agLd ag5, hu.eqnil Try.underlying25, hu.nenil Try.underlying25, hu.conv Try.underlying25 Try.underlying9 Try.underlying5]
          try simp (disch := omega) only [wrap_i64, wrap_u8]
          repeat (with_reducible refine And.intro ?_ ?_; · first | trivial | omega | (intro hg; simp only [Bool.and_eq_true, Bool.or_eq_true, Bool.not_eq_true', Bool.and_eq_false_iff, Bool.or_eq_false_iff, Bool.not_eq_false', decide_eq_true_eq, decide_eq_false_iff_not, eqNil] at hg; omega))
          try simp only [thenA_normal, inBlockA_normal]
          rw [if_pos hb2.2] at hsn
          refine ⟨i + 1, ?_, Sub.refl _, by omega, by omega⟩
          rw [hsn, cmp1]
          first
          | (rw [if_pos (by omega)]; first | rfl | omega)
          | (rw [if_neg (by omega), if_pos (by omega)]; rfl)
          | (rw [if_neg (by omega), if_neg (by omega)]; have e := hb2.2; rw [e]; rfl)
      · try simp only [decide_eq_true_eq, decide_eq_false_iff_not, Bool.not_eq_true', Bool.not_eq_false', Bool.and_eq_true, Bool.and_eq_false_iff, Bool.or_eq_true, Bool.or_eq_false_iff, Bool.true_eq, Bool.false_eq, reduceCtorEq] at hb3
        refine awp_skip ?_
        change Awp _ _ _ _ _ _ _
        -- region 9  law.go:96
        refine awp_rseq [0, 1, 2, 7, 8, 54] (by rfl) fun K hK => ?_
        simp (decide := true) only [aOps_nil, ev, absV, absS, putD, Slots.put, Slots.get, Slots.keep, if_true, if_false, List.contains_cons, List.contains_nil, true_and, and_true, ↓ap_move, pop_move, hv.len Try.underlying25, hv.apI Try.underlying25 sz5, hv.agI Try.underlying25 sz5, hv.apLd ag5, hv.agLd ag5, hv.eqnil Try.underlying25, hv.nenil Try.underlying25, hv.conv Try.underlying25 Try.underlying9 Try.underlying5, hw.len Try.underlying25, hw.apI Try.underlying25 sz5, hw.agI Try.underlying25 sz5, hw.apLd ag5, hw.agLd ag5, hw.eqnil Try.underlying25, hw.nenil Try.underlying25, hw.conv Try.underlying25 Try.underlying9 Try.underlying5, hu.len Try.underlying25, hu.apI Try.underlying25 sz5, hu.agI Try.underlying25 sz5, hu.apLd ag5, hu.agLd ag5, hu.eqnil Try.underlying25, hu.nenil Try.underlying25, hu.conv Try.underlying25 Try.underlying9 Try.underlying5]
        repeat (with_reducible refine And.intro ?_ ?_; · first | trivial | omega | (intro hg; simp only [Bool.and_eq_true, Bool.or_eq_true, Bool.not_eq_true', Bool.and_eq_false_iff, Bool.or_eq_false_iff, Bool.not_eq_false', decide_eq_true_eq, decide_eq_false_iff_not, eqNil] at hg; omega))
        refine aOps_callV (V := .int .u8 (a.getD i 32).toNat) (by rfl) (by rfl) (c_at w₀ _ v a hv i) ?_
        simp (decide := true) only [aOps_nil, ev, absV, absS, putD, Slots.put, Slots.get, Slots.keep, if_true, if_false, List.contains_cons, List.contains_nil, true_and, and_true, ↓ap_move, pop_move, hv.len Try.underlying25, hv.apI Try.underlying25 sz5, hv.agI Try.underlying25 sz5, hv.apLd ag5, hv.agLd ag5, hv.eqnil Try.underlying25, hv.nenil Try.underlying25, hv.conv Try.underlying25 Try.underlying9 Try.underlying5, hw.len Try.underlying25, hw.apI Try.underlying25 sz5, hw.agI Try.underlying25 sz5, hw.apLd ag5, hw.agLd ag5, hw.eqnil Try.underlying25, hw.nenil Try.underlying25, hw.conv Try.underlying25 Try.underlying9 Try.underlying5, hu.len Try.underlying25, hu.apI Try.underlying25 sz5, hu.agI Try.underlying25 sz5, hu.apLd ag5, hu.agLd ag5, hu.eqnil Try.underlying25, hu.nenil Try.underlying25, hu.conv Try.underlying25 Try.underlying9 Try.underlying5]
        repeat (with_reducible refine And.intro ?_ ?_; · first | trivial | omega | (intro hg; simp only [Bool.and_eq_true, Bool.or_eq_true, Bool.not_eq_true', Bool.and_eq_false_iff, Bool.or_eq_false_iff, Bool.not_eq_false', decide_eq_true_eq, decide_eq_false_iff_not, eqNil] at hg; omega))
        refine aOps_callV (V := .int .u8 (b.getD i 32).toNat) (by rfl) (by rfl) (c_at w₀ _ w b hw i) ?_
        simp (decide := true) only [aOps_nil, ev, absV, absS, putD, Slots.put, Slots.get, Slots.keep, if_true, if_false, List.contains_cons, List.contains_nil, true_and, and_true, ↓ap_binOp, pop_binOp, pBinX_int, pI_gtr, hv.len Try.underlying25, hv.apI Try.underlying25 sz5, hv.agI Try.underlying25 sz5, hv.apLd ag5, hv.agLd ag5, hv.eqnil Try.underlying25, hv.nenil Try.underlying25, hv.conv Try.underlying25 Try.underlying9 Try.underlying5, hw.len Try.underlying25, hw.apI Try.underlying25 sz5, hw.agI Try.underlying25 sz5, hw.apLd ag5, hw.agLd ag5, hw.eqnil Try.underlying25, hw.nenil Try.underlying25, hw.conv Try.underlying25 Try.underlying9 Try.underlying5, hu.len Try.underlying25, hu.apI Try.underlying25 sz5, hu.agI Try.underlying25 sz5, hu.apLd ag5, hu.agLd ag5, hu.eqnil Try.underlying25, hu.nenil Try.underlying25, hu.conv Try.underlying25 Try.underlying9 Try.underlying5]
        repeat (with_reducible refine And.intro ?_ ?_; · first | trivial | omega | (intro hg; simp only [Bool.and_eq_true, Bool.or_eq_true, Bool.not_eq_true', Bool.and_eq_false_iff, Bool.or_eq_false_iff, Bool.not_eq_false', decide_eq_true_eq, decide_eq_false_iff_not, eqNil] at hg; omega))
        apply hK; clear hK K
        refine awp_cond (b := _) rfl (fun hb5 => ?_) (fun hb5 => ?_)
        · try simp only [decide_eq_true_eq, decide_eq_false_iff_not, Bool.not_eq_true', Bool.not_eq_false', Bool.and_eq_true, Bool.and_eq_false_iff, Bool.or_eq_true, Bool.or_eq_false_iff, Bool.true_eq, Bool.false_eq, reduceCtorEq] at hb5
          -- region 10  law.go:97
          refine awp_r [0, 1, 2, 7, 8] (by rfl) ?_
          simp (decide := true) only [aOps_nil, ev, absV, absS, putD, Slots.put, Slots.get, Slots.keep, if_true, if_false, List.contains_cons, List.contains_nil, true_and, and_true, ↓ap_assign, pop_assign, hv.len Try.underlying25, hv.apI Try.underlying25 sz5, hv.agI Try.underlying25 sz5, hv.apLd ag5, hv.agLd ag5, hv.eqnil Try.underlying25, hv.nenil Try.underlying25, hv.conv Try.underlying25 Try.underlying9 Try.underlying5, hw.len Try.underlying25, hw.apI Try.underlying25 sz5, hw.agI Try.underlying25 sz5, hw.apLd ag5, hw.agLd ag5, hw.eqnil Try.underlying25, hw.nenil Try.underlying25, hw.conv Try.underlying25 Try.underlying9 Try.underlying5, hu.len Try.underlying25, hu.apI Try.underlying25 sz5, hu.agI Try.underlying25 sz5, hu.apLd ag5, hu.agLd ag5, hu.eqnil Try.underlying25, hu.nenil Try.underlying25, hu.conv Try.underlying25 Try.underlying9 Try.underlying5]
          repeat (with_reducible refine And.intro ?_ ?_; · first | trivial | omega | (intro hg; simp only [Bool.and_eq_true, Bool.or_eq_true, Bool.not_eq_true', Bool.and_eq_false_iff, Bool.or_eq_false_iff, Bool.not_eq_false', decide_eq_true_eq, decide_eq_false_iff_not, eqNil] at hg; omega))
          change Awp _ _ _ _ _ _ _
          -- region 6  law.go:92
          refine awp_r [0, 1, 2, 7, 8] (by rfl) ?_
          simp (decide := true) only [aOps_nil, ev, absV, absS, putD, Slots.put, Slots.get, Slots.keep, if_true, if_false, List.contains_cons, List.contains_nil, true_and, and_true, ↓ap_move, pop_move, ↓ap_binOp, pop_binOp, pBinX_int, pI_add, ↓ap_assign, pop_assign, hv.len Try.underlying25, hv.apI Try.underlying25 sz5, hv.agI Try.underlying25 sz5, hv.apLd ag5, hv.agLd ag5, hv.eqnil Try.underlying25, hv.nenil Try.underlying25, hv.conv Try.underlying25 Try.underlying9 Try.underlying5, hw.len Try.underlying25, hw.apI Try.underlying25 sz5, hw.agI Try.underlying25 sz5, hw.apLd ag5, hw.agLd ag5, hw.eqnil Try.underlying25, hw.nenil Try.underlying25, hw.conv Try.underlying25 Try.underlying9 Try.underlying5, hu.len Try.underlying25, hu.apI Try.underlying25 sz5, hu.agI Try.underlying25 sz5, hu.apLd ag5, hu.agLd ag5, hu.eqnil Try.underlying25, hu.nenil Try.underlying25, hu.conv Try.underlying25 Try.underlying9 Try.underlying5]
          try simp (disch := omega) only [wrap_i64, wrap_u8]
          repeat (with_reducible refine And.intro ?_ ?_; · first | trivial | omega | (intro hg; simp only [Bool.and_eq_true, Bool.or_eq_true, Bool.not_eq_true', Bool.and_eq_false_iff, Bool.or_eq_false_iff, Bool.not_eq_false', decide_eq_true_eq, decide_eq_false_iff_not, eqNil] at hg; omega))
          try simp only [thenA_normal, inBlockA_normal]
          rw [if_pos hb2.2] at hsn
          refine ⟨i + 1, ?_, Sub.refl _, by omega, by omega⟩
          rw [hsn, cmp1]
          first
          | (rw [if_pos (by omega)]; first | rfl | omega)
          | (rw [if_neg (by omega), if_pos (by omega)]; rfl)
          | (rw [if_neg (by omega), if_neg (by omega)]; have e := hb2.2; rw [e]; rfl)
        · try simp only [decide_eq_true_eq, decide_eq_false_iff_not, Bool.not_eq_true', Bool.not_eq_false', Bool.and_eq_true, Bool.and_eq_false_iff, Bool.or_eq_true, Bool.or_eq_false_iff, Bool.true_eq, Bool.false_eq, reduceCtorEq] at hb5
          refine awp_skip ?_
          change Awp _ _ _ _ _ _ _
          -- region 6  law.go:92
          refine awp_r [0, 1, 2, 7, 8] (by rfl) ?_
          simp (decide := true) only [aOps_nil, ev, absV, absS, putD, Slots.put, Slots.get, Slots.keep, if_true, if_false, List.contains_cons, List.contains_nil, true_and, and_true, ↓ap_move, pop_move, ↓ap_binOp, pop_binOp, pBinX_int, pI_add, ↓ap_assign, pop_assign, hv.len Try.underlying25, hv.apI Try.underlying25 sz5, hv.agI Try.underlying25 sz5, hv.apLd ag5, hv.agLd ag5, hv.eqnil Try.underlying25, hv.nenil Try.underlying25, hv.conv Try.underlying25 Try.underlying9 Try.underlying5, hw.len Try.underlying25, hw.apI Try.underlying25 sz5, hw.agI Try.underlying25 sz5, hw.apLd ag5, hw.agLd ag5, hw.eqnil Try.underlying25, hw.nenil Try.underlying25, hw.conv Try.underlying25 Try.underlying9 Try.underlying5, hu.len Try.underlying25, hu.apI Try.underlying25 sz5, hu.agI Try.underlying25 sz5, hu.apLd ag5, hu.agLd ag5, hu.eqnil Try.underlying25, hu.nenil Try.underlying25, hu.conv Try.underlying25 Try.underlying9 Try.underlying5]
          try simp (disch := omega) only [wrap_i64, wrap_u8]
          repeat (with_reducible refine And.intro ?_ ?_; · first | trivial | omega | (intro hg; simp only [Bool.and_eq_true, Bool.or_eq_true, Bool.not_eq_true', Bool.and_eq_false_iff, Bool.or_eq_false_iff, Bool.not_eq_false', decide_eq_true_eq, decide_eq_false_iff_not, eqNil] at hg; omega))
          try simp only [thenA_normal, inBlockA_normal]
          rw [if_pos hb2.2] at hsn
          refine ⟨i + 1, ?_, Sub.refl _, by omega, by omega⟩
          rw [hsn, cmp1]
          first
          | (rw [if_pos (by omega)]; first | rfl | omega)
          | (rw [if_neg (by omega), if_pos (by omega)]; rfl)
          | (rw [if_neg (by omega), if_neg (by omega)]; have e := hb2.2; rw [e]; rfl)
    · try simp only [decide_eq_true_eq, decide_eq_false_iff_not, Bool.not_eq_true', Bool.not_eq_false', Bool.and_eq_true, Bool.and_eq_false_iff, Bool.or_eq_true, Bool.or_eq_false_iff, Bool.true_eq, Bool.false_eq, reduceCtorEq] at hb2
      have hW : cmpB a b 0 i = cmpB a b 0 (max a.length b.length) := by
        by_cases hz : cmpB a b 0 i = 0
        · have : i = max a.length b.length := by omega
          rw [← this]
        · have := cmpB_stop a b i hz (max a.length b.length - i)
          rw [show i + (max a.length b.length - i) = max a.length b.length by omega] at this
          exact this.symm
      rw [hW]
      have hbd := ord_bounds a b (max a.length b.length)
      have hmx : max (a.length : Int) b.length = ((max a.length b.length : Nat) : Int) := by omega
      refine awp_exit ?_
      change Awp _ _ _ _ _ _ _
      -- region 11  law.go:100
      refine awp_rseq [0, 1, 2, 7, 9] (by rfl) fun K hK => ?_
      simp (decide := true) only [aOps_nil, ev, absV, absS, putD, Slots.put, Slots.get, Slots.keep, if_true, if_false, List.contains_cons, List.contains_nil, true_and, and_true, ↓ap_move, pop_move, ↓ap_len, pop_len, pLen_slice Try.underlying25, pLen_nil Try.underlying25, ↓ap_max, pop_max, pMax_int, evs, List.map_cons, List.map_nil, ↓ap_assign, pop_assign, hv.len Try.underlying25, hv.apI Try.underlying25 sz5, hv.agI Try.underlying25 sz5, hv.apLd ag5, hv.agLd ag5, hv.eqnil Try.underlying25, hv.nenil Try.underlying25, hv.conv Try.underlying25 Try.underlying9 Try.underlying5, hw.len Try.underlying25, hw.apI Try.underlying25 sz5, hw.agI Try.underlying25 sz5, hw.apLd ag5, hw.agLd ag5, hw.eqnil Try.underlying25, hw.nenil Try.underlying25, hw.conv Try.underlying25 Try.underlying9 Try.underlying5, hu.len Try.underlying25, hu.apI Try.underlying25 sz5, hu.agI Try.underlying25 sz5, hu.apLd ag5, hu.agLd ag5, hu.eqnil Try.underlying25, hu.nenil Try.underlying25, hu.conv Try.underlying25 Try.underlying9 Try.underlying5, hmx]
      repeat (with_reducible refine And.intro ?_ ?_; · first | trivial | omega | (intro hg; simp only [Bool.and_eq_true, Bool.or_eq_true, Bool.not_eq_true', Bool.and_eq_false_iff, Bool.or_eq_false_iff, Bool.not_eq_false', decide_eq_true_eq, decide_eq_false_iff_not, eqNil] at hg; omega))
      apply hK; clear hK K
      -- region 12  law.go:101
      refine awp_rseq [0, 1, 2, 7, 9, 10, 11] (by rfl) fun K hK => ?_
      simp (decide := true) only [aOps_nil, ev, absV, absS, putD, Slots.put, Slots.get, Slots.keep, if_true, if_false, List.contains_cons, List.contains_nil, true_and, and_true, ↓ap_move, pop_move, hv.len Try.underlying25, hv.apI Try.underlying25 sz5, hv.agI Try.underlying25 sz5, hv.apLd ag5, hv.agLd ag5, hv.eqnil Try.underlying25, hv.nenil Try.underlying25, hv.conv Try.underlying25 Try.underlying9 Try.underlying5, hw.len Try.underlying25, hw.apI Try.underlying25 sz5, hw.agI Try.underlying25 sz5, hw.apLd ag5, hw.agLd ag5, hw.eqnil Try.underlying25, hw.nenil Try.underlying25, hw.conv Try.underlying25 Try.underlying9 Try.underlying5, hu.len Try.underlying25, hu.apI Try.underlying25 sz5, hu.agI Try.underlying25 sz5, hu.apLd ag5, hu.agLd ag5, hu.eqnil Try.underlying25, hu.nenil Try.underlying25, hu.conv Try.underlying25 Try.underlying9 Try.underlying5]
      repeat (with_reducible refine And.intro ?_ ?_; · first | trivial | omega | (intro hg; simp only [Bool.and_eq_true, Bool.or_eq_true, Bool.not_eq_true', Bool.and_eq_false_iff, Bool.or_eq_false_iff, Bool.not_eq_false', decide_eq_true_eq, decide_eq_false_iff_not, eqNil] at hg; omega))
      refine aOps_call (by rfl) (by rfl) (c_fitOk w₀ _ _ a (max a.length b.length : Nat) false hv la (by omega) (by omega)) fun x12q2 h12q2 hx12q2 => ?_
      obtain ⟨k1, hk1, rfl, rfl⟩ := hx12q2
      rw [Int.toNat_natCast]
      simp (decide := true) only [aOps_nil, ev, absV, absS, putD, Slots.put, Slots.get, Slots.keep, if_true, if_false, List.contains_cons, List.contains_nil, true_and, and_true, ↓ap_move, pop_move, ↓ap_extract, pop_extract, pExt_tuple, List.length_cons, List.length_nil, List.getD_cons_zero, List.getD_cons_succ, ↓ap_assign, pop_assign, hv.len Try.underlying25, hv.apI Try.underlying25 sz5, hv.agI Try.underlying25 sz5, hv.apLd ag5, hv.agLd ag5, hv.eqnil Try.underlying25, hv.nenil Try.underlying25, hv.conv Try.underlying25 Try.underlying9 Try.underlying5, hw.len Try.underlying25, hw.apI Try.underlying25 sz5, hw.agI Try.underlying25 sz5, hw.apLd ag5, hw.agLd ag5, hw.eqnil Try.underlying25, hw.nenil Try.underlying25, hw.conv Try.underlying25 Try.underlying9 Try.underlying5, hu.len Try.underlying25, hu.apI Try.underlying25 sz5, hu.agI Try.underlying25 sz5, hu.apLd ag5, hu.agLd ag5, hu.eqnil Try.underlying25, hu.nenil Try.underlying25, hu.conv Try.underlying25 Try.underlying9 Try.underlying5]
      repeat (with_reducible refine And.intro ?_ ?_; · first | trivial | omega | (intro hg; simp only [Bool.and_eq_true, Bool.or_eq_true, Bool.not_eq_true', Bool.and_eq_false_iff, Bool.or_eq_false_iff, Bool.not_eq_false', decide_eq_true_eq, decide_eq_false_iff_not, eqNil] at hg; omega))
      apply hK; clear hK K
      -- region 13  law.go:102
      refine awp_rseq [0, 1, 2, 7, 10, 11, 12, 13] (by rfl) fun K hK => ?_
      simp (decide := true) only [aOps_nil, ev, absV, absS, putD, Slots.put, Slots.get, Slots.keep, if_true, if_false, List.contains_cons, List.contains_nil, true_and, and_true, ↓ap_move, pop_move, hv.len Try.underlying25, hv.apI Try.underlying25 sz5, hv.agI Try.underlying25 sz5, hv.apLd ag5, hv.agLd ag5, hv.eqnil Try.underlying25, hv.nenil Try.underlying25, hv.conv Try.underlying25 Try.underlying9 Try.underlying5, hw.len Try.underlying25, hw.apI Try.underlying25 sz5, hw.agI Try.underlying25 sz5, hw.apLd ag5, hw.agLd ag5, hw.eqnil Try.underlying25, hw.nenil Try.underlying25, hw.conv Try.underlying25 Try.underlying9 Try.underlying5, hu.len Try.underlying25, hu.apI Try.underlying25 sz5, hu.agI Try.underlying25 sz5, hu.apLd ag5, hu.agLd ag5, hu.eqnil Try.underlying25, hu.nenil Try.underlying25, hu.conv Try.underlying25 Try.underlying9 Try.underlying5]
      repeat (with_reducible refine And.intro ?_ ?_; · first | trivial | omega | (intro hg; simp only [Bool.and_eq_true, Bool.or_eq_true, Bool.not_eq_true', Bool.and_eq_false_iff, Bool.or_eq_false_iff, Bool.not_eq_false', decide_eq_true_eq, decide_eq_false_iff_not, eqNil] at hg; omega))
      refine aOps_call (by rfl) (by rfl) (c_fitOk w₀ _ _ b (max a.length b.length : Nat) false (hw.mono (by repeat (first | exact Sub.refl _ | refine Sub.trans ?_ (Sub.set (by assumption))))) lb (by omega) (by omega)) fun x13q2 h13q2 hx13q2 => ?_
      obtain ⟨k2, hk2, rfl, rfl⟩ := hx13q2
      rw [Int.toNat_natCast]
      have pv := hv.mono (show Sub h ((h.set k1 ⟨byteCells (fitB a (max a.length b.length) false), 0⟩).set k2 ⟨byteCells (fitB b (max a.length b.length) false), 0⟩) from (by repeat (first | exact Sub.refl _ | refine Sub.trans ?_ (Sub.set (by assumption)))))
      have pw := hw.mono (show Sub h ((h.set k1 ⟨byteCells (fitB a (max a.length b.length) false), 0⟩).set k2 ⟨byteCells (fitB b (max a.length b.length) false), 0⟩) from (by repeat (first | exact Sub.refl _ | refine Sub.trans ?_ (Sub.set (by assumption)))))
      have pu := hu.mono (show Sub h ((h.set k1 ⟨byteCells (fitB a (max a.length b.length) false), 0⟩).set k2 ⟨byteCells (fitB b (max a.length b.length) false), 0⟩) from (by repeat (first | exact Sub.refl _ | refine Sub.trans ?_ (Sub.set (by assumption)))))
      have la' := fitB_length a (max a.length b.length) false
      have lb' := fitB_length b (max a.length b.length) false
      have hX := (IsB.own (w₀ := w₀) (AHeap.set_same h k1 ⟨byteCells (fitB a (max a.length b.length) false), 0⟩) la'.symm (c := .exact (max a.length b.length)) (Nat.le_refl _)).mono (Sub.set (b := ⟨byteCells (fitB b (max a.length b.length) false), 0⟩) hk2)
      have hY := IsB.own (w₀ := w₀) (AHeap.set_same (h.set k1 ⟨byteCells (fitB a (max a.length b.length) false), 0⟩) k2 ⟨byteCells (fitB b (max a.length b.length) false), 0⟩) lb'.symm (c := .exact (max a.length b.length)) (Nat.le_refl _)
      simp (decide := true) only [aOps_nil, ev, absV, absS, putD, Slots.put, Slots.get, Slots.keep, if_true, if_false, List.contains_cons, List.contains_nil, true_and, and_true, ↓ap_move, pop_move, ↓ap_extract, pop_extract, pExt_tuple, List.length_cons, List.length_nil, List.getD_cons_zero, List.getD_cons_succ, ↓ap_assign, pop_assign, hv.len Try.underlying25, hv.apI Try.underlying25 sz5, hv.agI Try.underlying25 sz5, hv.apLd ag5, hv.agLd ag5, hv.eqnil Try.underlying25, hv.nenil Try.underlying25, hv.conv Try.underlying25 Try.underlying9 Try.underlying5, hw.len Try.underlying25, hw.apI Try.underlying25 sz5, hw.agI Try.underlying25 sz5, hw.apLd ag5, hw.agLd ag5, hw.eqnil Try.underlying25, hw.nenil Try.underlying25, hw.conv Try.underlying25 Try.underlying9 Try.underlying5, hu.len Try.underlying25, hu.apI Try.underlying25 sz5, hu.agI Try.underlying25 sz5, hu.apLd ag5, hu.agLd ag5, hu.eqnil Try.underlying25, hu.nenil Try.underlying25, hu.conv Try.underlying25 Try.underlying9 Try.underlying5]
      repeat (with_reducible refine And.intro ?_ ?_; · first | trivial | omega | (intro hg; simp only [Bool.and_eq_true, Bool.or_eq_true, Bool.not_eq_true', Bool.and_eq_false_iff, Bool.or_eq_false_iff, Bool.not_eq_false', decide_eq_true_eq, decide_eq_false_iff_not, eqNil] at hg; omega))
      apply hK; clear hK K
      refine awp_seq ?_
      -- region 14  law.go:103
      refine awp_rseq [0, 1, 2, 7, 112] (by rfl) fun K hK => ?_
      simp (decide := true) only [aOps_nil, ev, absV, absS, putD, Slots.put, Slots.get, Slots.keep, if_true, if_false, List.contains_cons, List.contains_nil, true_and, and_true, ↓ap_move, pop_move, ↓ap_binOp, pop_binOp, pBinX_int, pI_neq, ↓ag_move, agP, agQ_some, gv, nthDst, gKnown_bool, gKnown_cond, guardB_cond, guardB_bool_true, guardB_bool_false, cv_cv, implies_true, Bool.not_not, decide_true, decide_false, Bool.not_false, Bool.not_true, condV_true, condV_false, forall_const, Bool.and_true, Bool.and_false, Bool.true_and, Bool.false_and, Bool.or_true, Bool.or_false, Bool.true_or, Bool.false_or, ↓ag_binOp, cv_binl, cv_binr, cp_binl, cp_binr, ↓ap_pick, pop_pick, pPick_bool, pickV_cond_l, pickV_cond_r, pickV_cond_rn, cp_nest1, cp_nest2, cp_nest3, cp_nest4, pickV_and, pickV_or, pv.len Try.underlying25, pv.apI Try.underlying25 sz5, pv.agI Try.underlying25 sz5, pv.apLd ag5, pv.agLd ag5, pv.eqnil Try.underlying25, pv.nenil Try.underlying25, pv.conv Try.underlying25 Try.underlying9 Try.underlying5, pw.len Try.underlying25, pw.apI Try.underlying25 sz5, pw.agI Try.underlying25 sz5, pw.apLd ag5, pw.agLd ag5, pw.eqnil Try.underlying25, pw.nenil Try.underlying25, pw.conv Try.underlying25 Try.underlying9 Try.underlying5, pu.len Try.underlying25, pu.apI Try.underlying25 sz5, pu.agI Try.underlying25 sz5, pu.apLd ag5, pu.agLd ag5, pu.eqnil Try.underlying25, pu.nenil Try.underlying25, pu.conv Try.underlying25 Try.underlying9 Try.underlying5, hX.len Try.underlying25, hX.apI Try.underlying25 sz5, hX.agI Try.underlying25 sz5, hX.apLd ag5, hX.agLd ag5, hX.eqnil Try.underlying25, hX.nenil Try.underlying25, hX.conv Try.underlying25 Try.underlying9 Try.underlying5, hY.len Try.underlying25, hY.apI Try.underlying25 sz5, hY.agI Try.underlying25 sz5, hY.apLd ag5, hY.agLd ag5, hY.eqnil Try.underlying25, hY.nenil Try.underlying25, hY.conv Try.underlying25 Try.underlying9 Try.underlying5, true_and]
      repeat (with_reducible refine And.intro ?_ ?_; · first | trivial | omega | (intro hg; simp only [Bool.and_eq_true, Bool.or_eq_true, Bool.not_eq_true', Bool.and_eq_false_iff, Bool.or_eq_false_iff, Bool.not_eq_false', decide_eq_true_eq, decide_eq_false_iff_not, eqNil] at hg; omega))
      first
      | (refine aOps_yes (by rfl) ?_; refine aOps_callV (V := .int .i64 (cmpB a b 0 (max a.length b.length))) (by rfl) (by rfl) (c_compare w₀ _ v w a b pv pw la lb) ?_)
      | (refine aOps_gcall (V := .int .i64 (cmpB a b 0 (max a.length b.length))) (f := _) (cap := _) (xs := _) rfl (fun hg => ⟨rfl, ?_⟩) (fun hg => c_compare w₀ _ v w a b pv pw la lb) ?_; · (simp (decide := true) only [gv, nthDst, Slots.get, if_true, if_false, guardB_bool_true, guardB_bool_false, guardB_cond, Bool.not_not] at hg; simp (decide := true) only [evs, ev, Slots.get, if_true, if_false, hg, condV_true, List.append_nil, List.map_cons, List.map_nil]))
      simp (decide := true) only [aOps_nil, ev, absV, absS, putD, Slots.put, Slots.get, Slots.keep, if_true, if_false, List.contains_cons, List.contains_nil, true_and, and_true, gv, nthDst, guardB_bool_true, guardB_bool_false, guardB_cond, ↓ag_move, pop_move, agP, agQ_some, gKnown_bool, gKnown_cond, cv_cv, implies_true, Bool.not_not, decide_true, decide_false, Bool.not_false, Bool.not_true, condV_true, condV_false, forall_const, Bool.and_true, Bool.and_false, Bool.true_and, Bool.false_and, Bool.or_true, Bool.or_false, Bool.true_or, Bool.false_or, ↓ag_binOp, pop_binOp, cv_binl, cv_binr, cp_binl, cp_binr, pBinX_int, pI_neq, ↓ap_pick, pop_pick, pPick_bool, pickV_cond_l, pickV_cond_r, pickV_cond_rn, cp_nest1, cp_nest2, cp_nest3, cp_nest4, pickV_and, pickV_or, ↓ap_move, pv.len Try.underlying25, pv.apI Try.underlying25 sz5, pv.agI Try.underlying25 sz5, pv.apLd ag5, pv.agLd ag5, pv.eqnil Try.underlying25, pv.nenil Try.underlying25, pv.conv Try.underlying25 Try.underlying9 Try.underlying5, pw.len Try.underlying25, pw.apI Try.underlying25 sz5, pw.agI Try.underlying25 sz5, pw.apLd ag5, pw.agLd ag5, pw.eqnil Try.underlying25, pw.nenil Try.underlying25, pw.conv Try.underlying25 Try.underlying9 Try.underlying5, pu.len Try.underlying25, pu.apI Try.underlying25 sz5, pu.agI Try.underlying25 sz5, pu.apLd ag5, pu.agLd ag5, pu.eqnil Try.underlying25, pu.nenil Try.underlying25, pu.conv Try.underlying25 Try.underlying9 Try.underlying5, hX.len Try.underlying25, hX.apI Try.underlying25 sz5, hX.agI Try.underlying25 sz5, hX.apLd ag5, hX.agLd ag5, hX.eqnil Try.underlying25, hX.nenil Try.underlying25, hX.conv Try.underlying25 Try.underlying9 Try.underlying5, hY.len Try.underlying25, hY.apI Try.underlying25 sz5, hY.agI Try.underlying25 sz5, hY.apLd ag5, hY.agLd ag5, hY.eqnil Try.underlying25, hY.nenil Try.underlying25, hY.conv Try.underlying25 Try.underlying9 Try.underlying5, true_and]
      repeat (with_reducible refine And.intro ?_ ?_; · first | trivial | omega | (intro hg; simp only [Bool.and_eq_true, Bool.or_eq_true, Bool.not_eq_true', Bool.and_eq_false_iff, Bool.or_eq_false_iff, Bool.not_eq_false', decide_eq_true_eq, decide_eq_false_iff_not, eqNil] at hg; omega))
      first
      | (refine aOps_yes (by rfl) ?_; refine aOps_callV (V := .int .i64 (- cmpB a b 0 (max a.length b.length))) (by rfl) (by rfl) ((c_compare w₀ _ w v b a pw pv lb la).val (by rw [ord_swap])) ?_)
      | (refine aOps_gcall (V := .int .i64 (- cmpB a b 0 (max a.length b.length))) (f := _) (cap := _) (xs := _) rfl (fun hg => ⟨rfl, ?_⟩) (fun hg => (c_compare w₀ _ w v b a pw pv lb la).val (by rw [ord_swap])) ?_; · (simp (decide := true) only [gv, nthDst, Slots.get, if_true, if_false, guardB_bool_true, guardB_bool_false, guardB_cond, Bool.not_not] at hg; simp (decide := true) only [evs, ev, Slots.get, if_true, if_false, hg, condV_true, List.append_nil, List.map_cons, List.map_nil]))
      simp (decide := true) only [aOps_nil, ev, absV, absS, putD, Slots.put, Slots.get, Slots.keep, if_true, if_false, List.contains_cons, List.contains_nil, true_and, and_true, gv, nthDst, guardB_bool_true, guardB_bool_false, guardB_cond, ↓ag_move, pop_move, agP, agQ_some, gKnown_bool, gKnown_cond, cv_cv, implies_true, Bool.not_not, decide_true, decide_false, Bool.not_false, Bool.not_true, condV_true, condV_false, forall_const, Bool.and_true, Bool.and_false, Bool.true_and, Bool.false_and, Bool.or_true, Bool.or_false, Bool.true_or, Bool.false_or, ↓ag_unOp, pop_unOp, pU_neg, cv_un, cp_un, ↓ag_binOp, pop_binOp, cv_binl, cv_binr, cp_binl, cp_binr, pBinX_int, pI_neq, ↓ap_pick, pop_pick, pPick_bool, pickV_cond_l, pickV_cond_r, pickV_cond_rn, cp_nest1, cp_nest2, cp_nest3, cp_nest4, pickV_and, pickV_or, ↓ap_move, ↓ag_convert _ _ _ (es_str Try.underlying25 Try.underlying9), pop_convert, cv_conv, cp_conv, pBinX_str, pS_eql, pI_eql, pBinX_bne, Try.underlying4, pS_lss, pI_lss, pv.len Try.underlying25, pv.apI Try.underlying25 sz5, pv.agI Try.underlying25 sz5, pv.apLd ag5, pv.agLd ag5, pv.eqnil Try.underlying25, pv.nenil Try.underlying25, pv.conv Try.underlying25 Try.underlying9 Try.underlying5, pw.len Try.underlying25, pw.apI Try.underlying25 sz5, pw.agI Try.underlying25 sz5, pw.apLd ag5, pw.agLd ag5, pw.eqnil Try.underlying25, pw.nenil Try.underlying25, pw.conv Try.underlying25 Try.underlying9 Try.underlying5, pu.len Try.underlying25, pu.apI Try.underlying25 sz5, pu.agI Try.underlying25 sz5, pu.apLd ag5, pu.agLd ag5, pu.eqnil Try.underlying25, pu.nenil Try.underlying25, pu.conv Try.underlying25 Try.underlying9 Try.underlying5, hX.len Try.underlying25, hX.apI Try.underlying25 sz5, hX.agI Try.underlying25 sz5, hX.apLd ag5, hX.agLd ag5, hX.eqnil Try.underlying25, hX.nenil Try.underlying25, hX.conv Try.underlying25 Try.underlying9 Try.underlying5, hY.len Try.underlying25, hY.apI Try.underlying25 sz5, hY.agI Try.underlying25 sz5, hY.apLd ag5, hY.agLd ag5, hY.eqnil Try.underlying25, hY.nenil Try.underlying25, hY.conv Try.underlying25 Try.underlying9 Try.underlying5, true_and]
      try simp (disch := omega) only [wrap_i64, wrap_u8]
      repeat (with_reducible refine And.intro ?_ ?_; · first | trivial | omega | (intro hg; simp only [Bool.and_eq_true, Bool.or_eq_true, Bool.not_eq_true', Bool.and_eq_false_iff, Bool.or_eq_false_iff, Bool.not_eq_false', decide_eq_true_eq, decide_eq_false_iff_not, eqNil] at hg; omega))
      apply hK; clear hK K
      refine awp_cond (b := _) rfl (fun hb6 => ?_) (fun hb6 => ?_)
      · rw [ord_eq, ord_less, Int.zero_sub] at hb6
        simp at hb6
      · try simp only [decide_eq_true_eq, decide_eq_false_iff_not, Bool.not_eq_true', Bool.not_eq_false', Bool.and_eq_true, Bool.and_eq_false_iff, Bool.or_eq_true, Bool.or_eq_false_iff, Bool.true_eq, Bool.false_eq, reduceCtorEq] at hb6
        refine awp_skip ?_
        change Awp _ _ _ _ _ _ _
        refine awp_seq ?_
        -- region 16  law.go:106
        refine awp_rseq [0, 126] (by rfl) fun K hK => ?_
        simp (decide := true) only [aOps_nil, ev, absV, absS, putD, Slots.put, Slots.get, Slots.keep, if_true, if_false, List.contains_cons, List.contains_nil, true_and, and_true, ↓ap_move, pop_move, ↓ap_binOp, pop_binOp, pBinX_int, pI_leq, ↓ag_move, agP, agQ_some, gv, nthDst, gKnown_bool, gKnown_cond, guardB_cond, guardB_bool_true, guardB_bool_false, cv_cv, implies_true, Bool.not_not, decide_true, decide_false, Bool.not_false, Bool.not_true, condV_true, condV_false, forall_const, Bool.and_true, Bool.and_false, Bool.true_and, Bool.false_and, Bool.or_true, Bool.or_false, Bool.true_or, Bool.false_or, pv.len Try.underlying25, pv.apI Try.underlying25 sz5, pv.agI Try.underlying25 sz5, pv.apLd ag5, pv.agLd ag5, pv.eqnil Try.underlying25, pv.nenil Try.underlying25, pv.conv Try.underlying25 Try.underlying9 Try.underlying5, pw.len Try.underlying25, pw.apI Try.underlying25 sz5, pw.agI Try.underlying25 sz5, pw.apLd ag5, pw.agLd ag5, pw.eqnil Try.underlying25, pw.nenil Try.underlying25, pw.conv Try.underlying25 Try.underlying9 Try.underlying5, pu.len Try.underlying25, pu.apI Try.underlying25 sz5, pu.agI Try.underlying25 sz5, pu.apLd ag5, pu.agLd ag5, pu.eqnil Try.underlying25, pu.nenil Try.underlying25, pu.conv Try.underlying25 Try.underlying9 Try.underlying5, hX.len Try.underlying25, hX.apI Try.underlying25 sz5, hX.agI Try.underlying25 sz5, hX.apLd ag5, hX.agLd ag5, hX.eqnil Try.underlying25, hX.nenil Try.underlying25, hX.conv Try.underlying25 Try.underlying9 Try.underlying5, hY.len Try.underlying25, hY.apI Try.underlying25 sz5, hY.agI Try.underlying25 sz5, hY.apLd ag5, hY.agLd ag5, hY.eqnil Try.underlying25, hY.nenil Try.underlying25, hY.conv Try.underlying25 Try.underlying9 Try.underlying5]
        repeat (with_reducible refine And.intro ?_ ?_; · first | trivial | omega | (intro hg; simp only [Bool.and_eq_true, Bool.or_eq_true, Bool.not_eq_true', Bool.and_eq_false_iff, Bool.or_eq_false_iff, Bool.not_eq_false', decide_eq_true_eq, decide_eq_false_iff_not, eqNil] at hg; omega))
        first
        | (refine aOps_yes (by rfl) ?_; refine aOps_callV (V := .int .i64 (cmpB b c 0 (max b.length c.length))) (by rfl) (by rfl) (c_compare w₀ _ w u b c pw pu lb lc) ?_)
        | (refine aOps_gcall (V := .int .i64 (cmpB b c 0 (max b.length c.length))) (f := _) (cap := _) (xs := _) rfl (fun hg => ⟨rfl, ?_⟩) (fun hg => c_compare w₀ _ w u b c pw pu lb lc) ?_; · (simp (decide := true) only [gv, nthDst, Slots.get, if_true, if_false, guardB_bool_true, guardB_bool_false, guardB_cond, Bool.not_not] at hg; simp (decide := true) only [evs, ev, Slots.get, if_true, if_false, hg, condV_true, List.append_nil, List.map_cons, List.map_nil]))
        simp (decide := true) only [aOps_nil, ev, absV, absS, putD, Slots.put, Slots.get, Slots.keep, if_true, if_false, List.contains_cons, List.contains_nil, true_and, and_true, gv, nthDst, guardB_bool_true, guardB_bool_false, guardB_cond, ↓ag_binOp, pop_binOp, agP, agQ_some, gKnown_bool, gKnown_cond, cv_cv, implies_true, Bool.not_not, decide_true, decide_false, Bool.not_false, Bool.not_true, condV_true, condV_false, forall_const, Bool.and_true, Bool.and_false, Bool.true_and, Bool.false_and, Bool.or_true, Bool.or_false, Bool.true_or, Bool.false_or, cv_binl, cv_binr, cp_binl, cp_binr, pBinX_int, pI_leq, ↓ap_pick, pop_pick, pPick_bool, pickV_cond_l, pickV_cond_r, pickV_cond_rn, cp_nest1, cp_nest2, cp_nest3, cp_nest4, pickV_and, pickV_or, ↓ap_move, pop_move, ↓ag_move, pv.len Try.underlying25, pv.apI Try.underlying25 sz5, pv.agI Try.underlying25 sz5, pv.apLd ag5, pv.agLd ag5, pv.eqnil Try.underlying25, pv.nenil Try.underlying25, pv.conv Try.underlying25 Try.underlying9 Try.underlying5, pw.len Try.underlying25, pw.apI Try.underlying25 sz5, pw.agI Try.underlying25 sz5, pw.apLd ag5, pw.agLd ag5, pw.eqnil Try.underlying25, pw.nenil Try.underlying25, pw.conv Try.underlying25 Try.underlying9 Try.underlying5, pu.len Try.underlying25, pu.apI Try.underlying25 sz5, pu.agI Try.underlying25 sz5, pu.apLd ag5, pu.agLd ag5, pu.eqnil Try.underlying25, pu.nenil Try.underlying25, pu.conv Try.underlying25 Try.underlying9 Try.underlying5, hX.len Try.underlying25, hX.apI Try.underlying25 sz5, hX.agI Try.underlying25 sz5, hX.apLd ag5, hX.agLd ag5, hX.eqnil Try.underlying25, hX.nenil Try.underlying25, hX.conv Try.underlying25 Try.underlying9 Try.underlying5, hY.len Try.underlying25, hY.apI Try.underlying25 sz5, hY.agI Try.underlying25 sz5, hY.apLd ag5, hY.agLd ag5, hY.eqnil Try.underlying25, hY.nenil Try.underlying25, hY.conv Try.underlying25 Try.underlying9 Try.underlying5]
        repeat (with_reducible refine And.intro ?_ ?_; · first | trivial | omega | (intro hg; simp only [Bool.and_eq_true, Bool.or_eq_true, Bool.not_eq_true', Bool.and_eq_false_iff, Bool.or_eq_false_iff, Bool.not_eq_false', decide_eq_true_eq, decide_eq_false_iff_not, eqNil] at hg; omega))
        first
        | (refine aOps_yes (by rfl) ?_; refine aOps_callV (V := .int .i64 (cmpB a c 0 (max a.length c.length))) (by rfl) (by rfl) (c_compare w₀ _ v u a c pv pu la lc) ?_)
        | (refine aOps_gcall (V := .int .i64 (cmpB a c 0 (max a.length c.length))) (f := _) (cap := _) (xs := _) rfl (fun hg => ⟨rfl, ?_⟩) (fun hg => c_compare w₀ _ v u a c pv pu la lc) ?_; · (simp (decide := true) only [gv, nthDst, Slots.get, if_true, if_false, guardB_bool_true, guardB_bool_false, guardB_cond, Bool.not_not] at hg; simp (decide := true) only [evs, ev, Slots.get, if_true, if_false, hg, condV_true, List.append_nil, List.map_cons, List.map_nil]))
        simp (decide := true) only [aOps_nil, ev, absV, absS, putD, Slots.put, Slots.get, Slots.keep, if_true, if_false, List.contains_cons, List.contains_nil, true_and, and_true, gv, nthDst, guardB_bool_true, guardB_bool_false, guardB_cond, ↓ag_binOp, pop_binOp, agP, agQ_some, gKnown_bool, gKnown_cond, cv_cv, implies_true, Bool.not_not, decide_true, decide_false, Bool.not_false, Bool.not_true, condV_true, condV_false, forall_const, Bool.and_true, Bool.and_false, Bool.true_and, Bool.false_and, Bool.or_true, Bool.or_false, Bool.true_or, Bool.false_or, cv_binl, cv_binr, cp_binl, cp_binr, pBinX_int, pI_gtr, ↓ap_pick, pop_pick, pPick_bool, pickV_cond_l, pickV_cond_r, pickV_cond_rn, cp_nest1, cp_nest2, cp_nest3, cp_nest4, pickV_and, pickV_or, pv.len Try.underlying25, pv.apI Try.underlying25 sz5, pv.agI Try.underlying25 sz5, pv.apLd ag5, pv.agLd ag5, pv.eqnil Try.underlying25, pv.nenil Try.underlying25, pv.conv Try.underlying25 Try.underlying9 Try.underlying5, pw.len Try.underlying25, pw.apI Try.underlying25 sz5, pw.agI Try.underlying25 sz5, pw.apLd ag5, pw.agLd ag5, pw.eqnil Try.underlying25, pw.nenil Try.underlying25, pw.conv Try.underlying25 Try.underlying9 Try.underlying5, pu.len Try.underlying25, pu.apI Try.underlying25 sz5, pu.agI Try.underlying25 sz5, pu.apLd ag5, pu.agLd ag5, pu.eqnil Try.underlying25, pu.nenil Try.underlying25, pu.conv Try.underlying25 Try.underlying9 Try.underlying5, hX.len Try.underlying25, hX.apI Try.underlying25 sz5, hX.agI Try.underlying25 sz5, hX.apLd ag5, hX.agLd ag5, hX.eqnil Try.underlying25, hX.nenil Try.underlying25, hX.conv Try.underlying25 Try.underlying9 Try.underlying5, hY.len Try.underlying25, hY.apI Try.underlying25 sz5, hY.agI Try.underlying25 sz5, hY.apLd ag5, hY.agLd ag5, hY.eqnil Try.underlying25, hY.nenil Try.underlying25, hY.conv Try.underlying25 Try.underlying9 Try.underlying5]
        repeat (with_reducible refine And.intro ?_ ?_; · first | trivial | omega | (intro hg; simp only [Bool.and_eq_true, Bool.or_eq_true, Bool.not_eq_true', Bool.and_eq_false_iff, Bool.or_eq_false_iff, Bool.not_eq_false', decide_eq_true_eq, decide_eq_false_iff_not, eqNil] at hg; omega))
        apply hK; clear hK K
        refine awp_cond (b := _) rfl (fun hb7 => ?_) (fun hb7 => ?_)
        · try simp only [decide_eq_true_eq, decide_eq_false_iff_not, Bool.not_eq_true', Bool.not_eq_false', Bool.and_eq_true, Bool.and_eq_false_iff, Bool.or_eq_true, Bool.or_eq_false_iff, Bool.true_eq, Bool.false_eq, reduceCtorEq] at hb7
          have := ord_trans a b c hb7.1.1 hb7.1.2
          omega
        · try simp only [decide_eq_true_eq, decide_eq_false_iff_not, Bool.not_eq_true', Bool.not_eq_false', Bool.and_eq_true, Bool.and_eq_false_iff, Bool.or_eq_true, Bool.or_eq_false_iff, Bool.true_eq, Bool.false_eq, reduceCtorEq] at hb7
          refine awp_skip ?_
          change Awp _ _ _ _ _ _ _
          -- region 18  law.go:109
          refine awp_rseq [6] (by rfl) fun K hK => ?_
          simp (decide := true) only [aOps_nil, ev, absV, absS, putD, Slots.put, Slots.get, Slots.keep, if_true, if_false, List.contains_cons, List.contains_nil, true_and, and_true, ↓ap_move, pop_move, pv.len Try.underlying25, pv.apI Try.underlying25 sz5, pv.agI Try.underlying25 sz5, pv.apLd ag5, pv.agLd ag5, pv.eqnil Try.underlying25, pv.nenil Try.underlying25, pv.conv Try.underlying25 Try.underlying9 Try.underlying5, pw.len Try.underlying25, pw.apI Try.underlying25 sz5, pw.agI Try.underlying25 sz5, pw.apLd ag5, pw.agLd ag5, pw.eqnil Try.underlying25, pw.nenil Try.underlying25, pw.conv Try.underlying25 Try.underlying9 Try.underlying5, pu.len Try.underlying25, pu.apI Try.underlying25 sz5, pu.agI Try.underlying25 sz5, pu.apLd ag5, pu.agLd ag5, pu.eqnil Try.underlying25, pu.nenil Try.underlying25, pu.conv Try.underlying25 Try.underlying9 Try.underlying5, hX.len Try.underlying25, hX.apI Try.underlying25 sz5, hX.agI Try.underlying25 sz5, hX.apLd ag5, hX.agLd ag5, hX.eqnil Try.underlying25, hX.nenil Try.underlying25, hX.conv Try.underlying25 Try.underlying9 Try.underlying5, hY.len Try.underlying25, hY.apI Try.underlying25 sz5, hY.agI Try.underlying25 sz5, hY.apLd ag5, hY.agLd ag5, hY.eqnil Try.underlying25, hY.nenil Try.underlying25, hY.conv Try.underlying25 Try.underlying9 Try.underlying5]
          repeat (with_reducible refine And.intro ?_ ?_; · first | trivial | omega | (intro hg; simp only [Bool.and_eq_true, Bool.or_eq_true, Bool.not_eq_true', Bool.and_eq_false_iff, Bool.or_eq_false_iff, Bool.not_eq_false', decide_eq_true_eq, decide_eq_false_iff_not, eqNil] at hg; omega))
          refine aOps_call (by rfl) (by rfl) (c_trim w₀ _ _ a pv (by omega)) fun x18q2 h18q2 hx18q2 => ?_
          refine aOps_callV (V := .int .i64 0) (by rfl) (by rfl) ((c_compare w₀ _ _ _ a _ (pv.mono hx18q2.sub) hx18q2.isB la (by simp; omega)).val (by rw [ord_trim])) ?_
          simp (decide := true) only [aOps_nil, ev, absV, absS, putD, Slots.put, Slots.get, Slots.keep, if_true, if_false, List.contains_cons, List.contains_nil, true_and, and_true, ↓ap_binOp, pop_binOp, pBinX_int, pI_eql, ↓ap_move, pop_move, ↓ag_move, agP, agQ_some, gv, nthDst, gKnown_bool, gKnown_cond, guardB_cond, guardB_bool_true, guardB_bool_false, cv_cv, implies_true, Bool.not_not, decide_true, decide_false, Bool.not_false, Bool.not_true, condV_true, condV_false, forall_const, Bool.and_true, Bool.and_false, Bool.true_and, Bool.false_and, Bool.or_true, Bool.or_false, Bool.true_or, Bool.false_or, pv.len Try.underlying25, pv.apI Try.underlying25 sz5, pv.agI Try.underlying25 sz5, pv.apLd ag5, pv.agLd ag5, pv.eqnil Try.underlying25, pv.nenil Try.underlying25, pv.conv Try.underlying25 Try.underlying9 Try.underlying5, pw.len Try.underlying25, pw.apI Try.underlying25 sz5, pw.agI Try.underlying25 sz5, pw.apLd ag5, pw.agLd ag5, pw.eqnil Try.underlying25, pw.nenil Try.underlying25, pw.conv Try.underlying25 Try.underlying9 Try.underlying5, pu.len Try.underlying25, pu.apI Try.underlying25 sz5, pu.agI Try.underlying25 sz5, pu.apLd ag5, pu.agLd ag5, pu.eqnil Try.underlying25, pu.nenil Try.underlying25, pu.conv Try.underlying25 Try.underlying9 Try.underlying5, hX.len Try.underlying25, hX.apI Try.underlying25 sz5, hX.agI Try.underlying25 sz5, hX.apLd ag5, hX.agLd ag5, hX.eqnil Try.underlying25, hX.nenil Try.underlying25, hX.conv Try.underlying25 Try.underlying9 Try.underlying5, hY.len Try.underlying25, hY.apI Try.underlying25 sz5, hY.agI Try.underlying25 sz5, hY.apLd ag5, hY.agLd ag5, hY.eqnil Try.underlying25, hY.nenil Try.underlying25, hY.conv Try.underlying25 Try.underlying9 Try.underlying5]
          repeat (with_reducible refine And.intro ?_ ?_; · first | trivial | omega | (intro hg; simp only [Bool.and_eq_true, Bool.or_eq_true, Bool.not_eq_true', Bool.and_eq_false_iff, Bool.or_eq_false_iff, Bool.not_eq_false', decide_eq_true_eq, decide_eq_false_iff_not, eqNil] at hg; omega))
          refine aOps_yes (by rfl) ?_
          refine aOps_appendNew (t := 25) (by rfl) (by rfl) Try.underlying25 Try.underlying25 (fun _ => by simp) sz5 by5 ze5 (by rfl) (.inl rfl) (by rfl) (SrcB.of (pv.mono hx18q2.sub)) (by omega) (fun r h3 hr => ?_)
          refine aOps_yes (by rfl) ?_
          refine aOps_buildSlice (cs := byteCells [32]) (by kernel_rfl) fun k4 hk4 => ?_
          refine aOps_yes (by rfl) ?_
          refine aOps_appendApp hr (Sub.set hk4) (t := 25) (by rfl) (by rfl) Try.underlying25 Try.underlying25 (fun _ => by simp) sz5 by5 ze5 (by rfl) (by rfl) (SrcB.of (IsB.own (AHeap.set_same _ _ _) rfl (Nat.le_refl _))) (by decide : [(32 : UInt8)] ≠ []) (by simp; omega) (fun r5 h5 hr5 hs5 => ?_)
          first
          | (refine aOps_yes (by rfl) ?_; refine aOps_callV (V := .int .i64 0) (by rfl) (by rfl) ((c_compare w₀ _ _ _ a _ ((pv.mono hx18q2.sub).mono hs5) hr5 la (by simp; omega)).val (by rw [ord_space])) ?_)
          | (refine aOps_gcall (V := .int .i64 0) (f := _) (cap := _) (xs := _) rfl (fun hg => ⟨rfl, ?_⟩) (fun hg => (c_compare w₀ _ _ _ a _ ((pv.mono hx18q2.sub).mono hs5) hr5 la (by simp; omega)).val (by rw [ord_space])) ?_; · (simp (decide := true) only [gv, nthDst, Slots.get, if_true, if_false, guardB_bool_true, guardB_bool_false, guardB_cond, Bool.not_not] at hg; simp (decide := true) only [evs, ev, Slots.get, if_true, if_false, hg, condV_true, List.append_nil, List.map_cons, List.map_nil]))
          simp (decide := true) only [aOps_nil, ev, absV, absS, putD, Slots.put, Slots.get, Slots.keep, if_true, if_false, List.contains_cons, List.contains_nil, true_and, and_true, gv, nthDst, guardB_bool_true, guardB_bool_false, guardB_cond, ↓ag_binOp, pop_binOp, agP, agQ_some, gKnown_bool, gKnown_cond, cv_cv, implies_true, Bool.not_not, decide_true, decide_false, Bool.not_false, Bool.not_true, condV_true, condV_false, forall_const, Bool.and_true, Bool.and_false, Bool.true_and, Bool.false_and, Bool.or_true, Bool.or_false, Bool.true_or, Bool.false_or, cv_binl, cv_binr, cp_binl, cp_binr, pBinX_int, pI_eql, ↓ap_pick, pop_pick, pPick_bool, pickV_cond_l, pickV_cond_r, pickV_cond_rn, cp_nest1, cp_nest2, cp_nest3, cp_nest4, pickV_and, pickV_or, ↓ap_move, pop_move, pv.len Try.underlying25, pv.apI Try.underlying25 sz5, pv.agI Try.underlying25 sz5, pv.apLd ag5, pv.agLd ag5, pv.eqnil Try.underlying25, pv.nenil Try.underlying25, pv.conv Try.underlying25 Try.underlying9 Try.underlying5, pw.len Try.underlying25, pw.apI Try.underlying25 sz5, pw.agI Try.underlying25 sz5, pw.apLd ag5, pw.agLd ag5, pw.eqnil Try.underlying25, pw.nenil Try.underlying25, pw.conv Try.underlying25 Try.underlying9 Try.underlying5, pu.len Try.underlying25, pu.apI Try.underlying25 sz5, pu.agI Try.underlying25 sz5, pu.apLd ag5, pu.agLd ag5, pu.eqnil Try.underlying25, pu.nenil Try.underlying25, pu.conv Try.underlying25 Try.underlying9 Try.underlying5, hX.len Try.underlying25, hX.apI Try.underlying25 sz5, hX.agI Try.underlying25 sz5, hX.apLd ag5, hX.agLd ag5, hX.eqnil Try.underlying25, hX.nenil Try.underlying25, hX.conv Try.underlying25 Try.underlying9 Try.underlying5, hY.len Try.underlying25, hY.apI Try.underlying25 sz5, hY.agI Try.underlying25 sz5, hY.apLd ag5, hY.agLd ag5, hY.eqnil Try.underlying25, hY.nenil Try.underlying25, hY.conv Try.underlying25 Try.underlying9 Try.underlying5]
          repeat (with_reducible refine And.intro ?_ ?_; · first | trivial | omega | (intro hg; simp only [Bool.and_eq_true, Bool.or_eq_true, Bool.not_eq_true', Bool.and_eq_false_iff, Bool.or_eq_false_iff, Bool.not_eq_false', decide_eq_true_eq, decide_eq_false_iff_not, eqNil] at hg; omega))
          first
          | (refine aOps_yes (by rfl) ?_; refine aOps_callV (V := .bool true) (by rfl) (by rfl) (c_lives w₀ _) ?_)
          | (refine aOps_gcall (V := .bool true) (f := _) (cap := _) (xs := _) rfl (fun hg => ⟨rfl, ?_⟩) (fun hg => c_lives w₀ _) ?_; · (simp (decide := true) only [gv, nthDst, Slots.get, if_true, if_false, guardB_bool_true, guardB_bool_false, guardB_cond, Bool.not_not] at hg; simp (decide := true) only [evs, ev, Slots.get, if_true, if_false, hg, condV_true, List.append_nil, List.map_cons, List.map_nil]))
          simp (decide := true) only [aOps_nil, ev, absV, absS, putD, Slots.put, Slots.get, Slots.keep, if_true, if_false, List.contains_cons, List.contains_nil, true_and, and_true, gv, nthDst, guardB_bool_true, guardB_bool_false, guardB_cond, ↓ap_pick, pop_pick, pPick_bool, pickV_cond_l, pickV_cond_r, pickV_cond_rn, cp_nest1, cp_nest2, cp_nest3, cp_nest4, pickV_and, pickV_or, ↓ap_assign, pop_assign, pv.len Try.underlying25, pv.apI Try.underlying25 sz5, pv.agI Try.underlying25 sz5, pv.apLd ag5, pv.agLd ag5, pv.eqnil Try.underlying25, pv.nenil Try.underlying25, pv.conv Try.underlying25 Try.underlying9 Try.underlying5, pw.len Try.underlying25, pw.apI Try.underlying25 sz5, pw.agI Try.underlying25 sz5, pw.apLd ag5, pw.agLd ag5, pw.eqnil Try.underlying25, pw.nenil Try.underlying25, pw.conv Try.underlying25 Try.underlying9 Try.underlying5, pu.len Try.underlying25, pu.apI Try.underlying25 sz5, pu.agI Try.underlying25 sz5, pu.apLd ag5, pu.agLd ag5, pu.eqnil Try.underlying25, pu.nenil Try.underlying25, pu.conv Try.underlying25 Try.underlying9 Try.underlying5, hX.len Try.underlying25, hX.apI Try.underlying25 sz5, hX.agI Try.underlying25 sz5, hX.apLd ag5, hX.agLd ag5, hX.eqnil Try.underlying25, hX.nenil Try.underlying25, hX.conv Try.underlying25 Try.underlying9 Try.underlying5, hY.len Try.underlying25, hY.apI Try.underlying25 sz5, hY.agI Try.underlying25 sz5, hY.apLd ag5, hY.agLd ag5, hY.eqnil Try.underlying25, hY.nenil Try.underlying25, hY.conv Try.underlying25 Try.underlying9 Try.underlying5]
          repeat (with_reducible refine And.intro ?_ ?_; · first | trivial | omega | (intro hg; simp only [Bool.and_eq_true, Bool.or_eq_true, Bool.not_eq_true', Bool.and_eq_false_iff, Bool.or_eq_false_iff, Bool.not_eq_false', decide_eq_true_eq, decide_eq_false_iff_not, eqNil] at hg; omega))
          apply hK; clear hK K
          refine awp_ret ?_
          try simp only [thenA_ret, inBlockA_ret]
          refine retA_ret _ (Sub.refl _) (resPre_tmp (resPre_nil)) ?_
          simp (decide := true) only [aOps_nil, ev, absV, absS, putD, Slots.put, Slots.get, Slots.keep, if_true, if_false, List.contains_cons, List.contains_nil, true_and, and_true, resOf_one, pv.len Try.underlying25, pv.apI Try.underlying25 sz5, pv.agI Try.underlying25 sz5, pv.apLd ag5, pv.agLd ag5, pv.eqnil Try.underlying25, pv.nenil Try.underlying25, pv.conv Try.underlying25 Try.underlying9 Try.underlying5, pw.len Try.underlying25, pw.apI Try.underlying25 sz5, pw.agI Try.underlying25 sz5, pw.apLd ag5, pw.agLd ag5, pw.eqnil Try.underlying25, pw.nenil Try.underlying25, pw.conv Try.underlying25 Try.underlying9 Try.underlying5, pu.len Try.underlying25, pu.apI Try.underlying25 sz5, pu.agI Try.underlying25 sz5, pu.apLd ag5, pu.agLd ag5, pu.eqnil Try.underlying25, pu.nenil Try.underlying25, pu.conv Try.underlying25 Try.underlying9 Try.underlying5, hX.len Try.underlying25, hX.apI Try.underlying25 sz5, hX.agI Try.underlying25 sz5, hX.apLd ag5, hX.agLd ag5, hX.eqnil Try.underlying25, hX.nenil Try.underlying25, hX.conv Try.underlying25 Try.underlying9 Try.underlying5, hY.len Try.underlying25, hY.apI Try.underlying25 sz5, hY.agI Try.underlying25 sz5, hY.apLd ag5, hY.agLd ag5, hY.eqnil Try.underlying25, hY.nenil Try.underlying25, hY.conv Try.underlying25 Try.underlying9 Try.underlying5]
          all_goals first | rfl | exact ⟨rfl, rfl⟩ | (simp (decide := true) only [if_true, if_false, *]; done) | (trace_state; fail)
end Go.Proofs.Ytmnlmfiokbnhhaa
