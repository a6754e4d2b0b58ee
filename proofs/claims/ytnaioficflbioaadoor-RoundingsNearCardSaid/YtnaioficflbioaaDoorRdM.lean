/-
  The statement RoundingsNear, walked.
  Conditions: none.
-/
import Derived.Test.YtnaioficflbioaaDoorRdL
set_option linter.unnecessarySimpa false
set_option linter.unusedSimpArgs false
set_option linter.unusedVariables false
namespace Go.Proofs.YtnaioficflbioaaDoor
open Go.AM
open Go.Proofs
open Go.Dec
open Go.Lib (decDigits)
set_option maxRecDepth 100000

theorem near_err {d : D} (hv : checkE d = 0) (hl : d.dig.length ≤ 40) (s m : Int) (s0 : -62 ≤ s) (s1 : s ≤ 62) (m6 : m ≤ 6) (he : (roundE d s m).2 ≠ 0) : s = -62 := by
  have rv := roundE_val hv s m s0 s1 (by omega)
  obtain ⟨sd, dd, _, _⟩ := Small_of_check hv
  have hs0 := sd.s0
  cases hb : lostB d s with
  | false => rw [hb, if_pos rfl] at rv; rw [rv] at he; exact absurd rfl he
  | true =>
    rw [hb, if_neg (by decide), if_neg (by omega)] at rv
    have hlt : s < d.scale := by
      unfold lostB at hb
      simp only [Bool.and_eq_true, decide_eq_true_eq] at hb
      exact hb.1
    have hlong : 62 < long (chosenE d s m) := by
      refine Classical.byContradiction fun h => ?_
      rw [resE_ok h] at rv
      rw [rv] at he
      exact absurd rfl he
    refine Classical.byContradiction fun hne => ?_
    have hn : natOf d.dig < 10 ^ 40 := Nat.lt_of_lt_of_le (natOf_lt _ dd) (Nat.pow_le_pow_right (by omega) hl)
    have key : ∀ w, w ≤ wholeN d s + 1 → long (stepsD d.neg w s) ≤ 62 := by
      intro w hw
      have hb : w * 10 ^ (-s).toNat < 10 ^ 62 := by
        have h1 : w * 10 ^ (-s).toNat ≤ (wholeN d s + 1) * 10 ^ (-s).toNat := Nat.mul_le_mul_right _ hw
        rw [Nat.add_mul, Nat.one_mul] at h1
        have h2 : 10 ^ (-s).toNat ≤ 10 ^ 61 := Nat.pow_le_pow_right (by omega) (by omega)
        have h3 : wholeN d s * 10 ^ (-s).toNat ≤ natOf d.dig := by
          refine Nat.le_trans (Nat.mul_le_mul_left _ (Nat.pow_le_pow_right (by omega) (show (-s).toNat ≤ (d.scale - s).toNat by omega))) ?_
          exact Nat.div_mul_le_self _ _
        have h4 : (10 : Nat) ^ 40 + 10 ^ 61 < 10 ^ 62 := by decide +kernel
        omega
      obtain ⟨c1, c2⟩ := canon_bound d.neg (w * 10 ^ (-s).toNat) s.toNat 62 (by omega) hb
      unfold long stepsD
      omega
    have hw : ∃ w, w ≤ wholeN d s + 1 ∧ chosenE d s m = stepsD d.neg w s := by
      unfold chosenE
      rw [if_neg (by rw [hb]; decide), farE, nearE, if_pos hb]
      split
      · exact ⟨_, Nat.le_refl _, rfl⟩
      · exact ⟨_, Nat.le_succ _, rfl⟩
    obtain ⟨w, hw1, hw2⟩ := hw
    have := key w hw1
    rw [hw2] at hlong
    omega
theorem long_step : 62 < long (stepsD false 1 (-62)) := by
  have : decide (62 < long (stepsD false 1 (-62))) = true := by kernel_rfl
  exact of_decide_eq_true this
theorem ofN_bound (neg : Bool) (bs : List UInt8) (sc : UInt8) (hl : bs.length ≤ 40) : (ofN neg bs sc).dig.length ≤ 40 := by
  unfold ofN
  refine (canon_bound _ _ _ 40 (by omega) ?_).1
  have h1 := natOf_lt _ (digN_all bs)
  rw [digN_len] at h1
  exact Nat.lt_of_lt_of_le h1 (Nat.pow_le_pow_right (by omega) (by omega))
theorem sc_mod (sc : UInt8) : ∃ x : UInt8, (sc.toNat : Int) % 41 = (x.toNat : Int) := by
  have := sc.toNat_lt
  exact ⟨UInt8.ofNat (sc.toNat % 41), by rw [UInt8.toNat_ofNat']; omega⟩
theorem step_pow (s : Int) : canon false (10 ^ (max (0 - s) 0).toNat) (max s 0).toNat = stepsD false 1 s := by
  unfold stepsD
  rw [Nat.one_mul, show (max (0 - s) 0).toNat = (-s).toNat by omega, show (max s 0).toNat = s.toNat by omega]
theorem canon_ok {sg : Bool} {T K : Nat} {c : D} (h : resE (canon sg T K) = (c, 0)) : c = canon sg T K ∧ long c ≤ 62 := by
  by_cases hl : 62 < long (canon sg T K)
  · rw [resE_long hl] at h; cases h
  · rw [resE_ok hl] at h
    have := (Prod.mk.inj h).1
    exact ⟨this.symm, by rw [← this]; omega⟩
/-- What is compared at the end. -/
theorem near_last {x : D} {s : Int} {T K : Nat} (hx : x = canon false T K) (hc : checkE x = 0) (hst : long (stepsD false 1 s) ≤ 62) (hK : s ≤ K) (half : Prop) [Decidable half] (h : T < stepN s K ∨ (T ≤ stepN s K ∧ half)) :
    (compareE x (stepsD false 1 s)).2 = 0 ∧ ((compareE x (stepsD false 1 s)).1 < 0 ∨ ((compareE x (stepsD false 1 s)).1 = 0 ∧ half)) := by
  obtain ⟨v1, v2⟩ := steps_val false 1 s K hK
  have hcs : checkE (stepsD false 1 s) = 0 := check_canon _ _ _ hst
  have nx : x.neg = false := by rw [hx]; unfold canon; split <;> rfl
  have ns : (stepsD false 1 s).neg = false := by unfold stepsD canon; split <;> rfl
  have lx : x.scale ≤ K := by rw [hx]; exact canon_le _ _ _
  have vx : natOf x.dig * 10 ^ (K - x.scale.toNat) = T := by rw [hx]; exact canon_val _ _ _
  rw [compare_at hc hcs nx ns K lx v2, v1, vx, Nat.one_mul]
  refine ⟨rfl, ?_⟩
  by_cases c : T < stepN s K
  · rw [if_pos c]; exact .inl (by decide)
  · rw [if_neg c]
    rcases h with h | ⟨h, hh⟩
    · exact absurd h c
    · rw [if_pos (by omega)]; exact .inr ⟨rfl, hh⟩

theorem near_twice {z q : D} {sg : Bool} {T K : Nat} {s mm : Int} (hz : z = canon sg T K) (hzv : checkE ⟨false, z.dig, z.scale⟩ = 0) (hq : addE ⟨false, z.dig, z.scale⟩ ⟨false, z.dig, z.scale⟩ = (q, 0))
    (hT : 2 * T ≤ stepN s K) (hm : 1 ≤ mm ∧ mm ≤ 3) : checkE q = 0 ∧ ∃ T', q = canon false T' K ∧ (T' < stepN s K ∨ (T' ≤ stepN s K ∧ (1 ≤ mm ∧ mm ≤ 3))) := by
  have e : (⟨false, z.dig, z.scale⟩ : D) = canon false T K := by rw [hz]; exact canon_neg _ _ _
  have hn : (canon false T K).neg = false := by unfold canon; split <;> rfl
  rw [e] at hzv hq
  rw [add_at hzv hzv K (canon_le _ _ _) (canon_le _ _ _), if_pos rfl, canon_val, hn, ← Nat.two_mul] at hq
  obtain ⟨h1, h2⟩ := canon_ok hq
  exact ⟨by rw [h1]; exact check_canon _ _ _ (by rw [← h1]; exact h2), _, h1, .inr ⟨hT, hm⟩⟩

set_option maxHeartbeats 4000000 in
theorem l_RoundingsNear (w₀ : World) (ht : Tab10 w₀) (h : AHeap) (neg : Bool) (v : AVal) (bs : List UInt8) (sc : UInt8) (hb : IsB w₀ h v bs) (hl : bs.length ≤ 9223372036854775807) (a b : UInt8) (m : UInt8) :
    ACall Tryd.prog w₀ 8 [.agg [.bool neg, v, .int .u8 sc.toNat], .agg [.int .u8 a.toNat, .int .u8 b.toNat], .int .u8 m.toNat] h (fun x _ => x = .bool true) := by
  refine ACall.mono (R := fun x h' => x = .bool true ∧ h' = h) ?_ fun x h' hx => hx.1
  have hlv := hb.live
  have hm := m.toNat_lt
  obtain ⟨sc', hsc⟩ := sc_mod sc
  obtain ⟨s, hs⟩ : ∃ s, s = gSc b := ⟨_, rfl⟩
  obtain ⟨s0, s1⟩ : -62 ≤ s ∧ s ≤ 62 := by rw [hs]; exact gSc_bound b
  obtain ⟨mm, hmm⟩ : ∃ mm : Int, mm = (m.toNat : Int) % 7 := ⟨_, rfl⟩
  have mm0 : 0 ≤ mm ∧ mm ≤ 6 := by omega
  obtain ⟨st, hst⟩ : ∃ st, st = stepsD false 1 s := ⟨_, rfl⟩
  have h40 : 40 < bs.length → IsB w₀ h (subV v 0 40) (bs.take 40) := fun hh => hb.sub (i := 0) (j := 40) (by omega) (by omega)
  have c1 : ∀ {y : AVal} {l : List UInt8}, IsB w₀ h y l → y.cells = [y] := fun hh => by cases hh <;> rfl
  have c2 : ∀ {y : AVal} {l : List UInt8}, IsB w₀ h y l → allScal [y] = true := fun hh => by cases hh <;> rfl
  refine acall_intro (n := 120) (rs := [.tmp 6]) Tryd.func8 rfl rfl rfl rfl (Nat.le_of_ble_eq_true rfl) ?_
  simp only [initSlots]
  -- region 0  law.go:213
  refine awp_rseq [2, 3, 4] (by rfl) fun K hK => ?_
  refine aOps_box (by rfl) (by rfl) (by rfl) fun k0q0 hk0q0 => ?_
  try have hf_0q0 : h k0q0 = none := by first | assumption | (simp only [AHeap.set_none] at hk0q0; simp only [hk0q0])
  skip
  refine aOps_box (by rfl) (by rfl) (by rfl) fun k0q1 hk0q1 => ?_
  have ne_0q1_0q0 : k0q1 ≠ k0q0 := by simp only [AHeap.set_none] at hk0q1; simp only [hk0q1, ne_eq, not_false_eq_true]
  try have hf_0q1 : h k0q1 = none := by first | assumption | (simp only [AHeap.set_none] at hk0q1; simp only [hk0q1])
  skip
  simp (decide := true) only [aOps_nil, ev, absV, absS, putD, Slots.put, Slots.get, Slots.keep, if_true, if_false, true_and, ↓ap_assign, pop_assign, AVal.cells, Nat.zero_add, Nat.reduceAdd]
  repeat (with_reducible refine And.intro ?_ ?_; · first | trivial | omega | (intro hg; simp only [Bool.and_eq_true, Bool.or_eq_true, Bool.not_eq_true', Bool.and_eq_false_iff, Bool.or_eq_false_iff, Bool.not_eq_false', decide_eq_true_eq, decide_eq_false_iff_not, eqNil] at hg; omega))
  apply hK; clear hK K
  refine awp_seq ?_
  -- region 1  law.go:214
  refine awp_rseq [2, 3, 4, 23] (by rfl) fun K hK => ?_
  simp (decide := true) only [aOps_nil, ev, absV, absS, putD, Slots.put, Slots.get, Slots.keep, if_true, if_false, true_and, ↓ap_fieldAddr, pop_fieldAddr, fa24_1, ↓ap_loadL, apL_mk, pLoad_one ag22, ↓ap_len, pop_len, ↓ap_binOp, pop_binOp, pBinX_int, pI_gtr, rd_ne', ne_eq, not_false_eq_true, ne_0q1_0q0.symm, rd_any, List.getD_cons_zero, List.getD_cons_succ, Nat.zero_add, hb.len Tryd.underlying22, hlv]
  repeat (with_reducible refine And.intro ?_ ?_; · first | trivial | omega | (intro hg; simp only [Bool.and_eq_true, Bool.or_eq_true, Bool.not_eq_true', Bool.and_eq_false_iff, Bool.or_eq_false_iff, Bool.not_eq_false', decide_eq_true_eq, decide_eq_false_iff_not, eqNil] at hg; omega))
  apply hK; clear hK K
  refine awp_joinT [2, 3, 4] (fun y : AVal => [(2, .int .u8 m.toNat), (3, .ptr (.own k0q0) 0), (4, .ptr (.own k0q1) 0)]) (fun y : AVal => (h.set k0q0 ⟨[.bool neg, y, .int .u8 sc.toNat], 0⟩).set k0q1 ⟨[.int .u8 a.toNat, .int .u8 b.toNat], 0⟩) (fun y : AVal => ∃ bs', IsB w₀ h y bs' ∧ bs'.length ≤ 40) ?_ ?_
  · refine awp_cond (b := _) rfl (fun hb1 => ?_) (fun hb1 => ?_)
    · try simp only [decide_eq_true_eq] at hb1
      -- region 2  law.go:215
      refine awp_r [2, 3, 4] (by rfl) ?_
      simp (decide := true) only [ev, absV, absS, putD, Slots.put, Slots.get, if_true, if_false, true_and, ↓ap_fieldAddr, pop_fieldAddr, fa24_1, ↓ap_loadL, apL_mk, pLoad_one ag22, ↓ap_slice, pop_slice, evO, rd_ne', ne_eq, not_false_eq_true, ne_0q1_0q0.symm, rd_any, List.getD_cons_zero, List.getD_cons_succ, Nat.zero_add, hlv, hb.slice Tryd.underlying22 sz5 none (some (.int .i64 40)) (l := 0) (r := 40) rfl rfl (by omega) (by omega) (by omega)]
      repeat (with_reducible refine And.intro ?_ ?_; · first | trivial | omega | (intro hg; simp only [Bool.and_eq_true, Bool.or_eq_true, Bool.not_eq_true', Bool.and_eq_false_iff, Bool.or_eq_false_iff, Bool.not_eq_false', decide_eq_true_eq, decide_eq_false_iff_not, eqNil] at hg; omega))
      have h41 := h40 (by omega)
      refine aOps_store (v := subV v 0 40) (by rfl) (by rfl) (by repeat (first | exact AHeap.set_same _ _ _ | assumption | refine (AHeap.set_ne _ _ (by first | assumption | exact Ne.symm (by assumption))).trans ?_)) sz22 h41.live (by rw [c1 h41]; rfl) (by simp) (Nat.zero_le _) (by rw [c1 h41]; exact c2 h41) ?_
      rw [c1 h41]
      rw [show ((h.set k0q0 ⟨[.bool neg, v, .int .u8 sc.toNat], 0⟩).set k0q1 ⟨[.int .u8 a.toNat, .int .u8 b.toNat], 0⟩).set k0q0 ⟨setAt [.bool neg, v, .int .u8 sc.toNat] 1 [subV v 0 40], 0⟩ = (h.set k0q0 ⟨[.bool neg, subV v 0 40, .int .u8 sc.toNat], 0⟩).set k0q1 ⟨[.int .u8 a.toNat, .int .u8 b.toNat], 0⟩ by rw [AHeap.set_comm _ _ _ (Ne.symm ne_0q1_0q0), AHeap.set_set]; rfl]
      simp (decide := true) only [aOps_nil, putD, Slots.keep, if_true, if_false]
      repeat (with_reducible refine And.intro ?_ ?_; · first | trivial | omega | (intro hg; simp only [Bool.and_eq_true, Bool.or_eq_true, Bool.not_eq_true', Bool.and_eq_false_iff, Bool.or_eq_false_iff, Bool.not_eq_false', decide_eq_true_eq, decide_eq_false_iff_not, eqNil] at hg; omega))
      try simp only [thenA_normal]
      first | exact ⟨_, rfl, Sub.refl _, _, h40 (by omega), by rw [List.length_take]; omega⟩ | exact ⟨_, rfl, Sub.refl _, bs, hb, by omega⟩
    · try simp only [decide_eq_false_iff_not] at hb1
      refine awp_skip ?_
      try simp only [thenA_normal]
      first | exact ⟨_, rfl, Sub.refl _, _, h40 (by omega), by rw [List.length_take]; omega⟩ | exact ⟨_, rfl, Sub.refl _, bs, hb, by omega⟩
  · rintro y ⟨bs', hb', hl'⟩
    have hlv' := hb'.live
    obtain ⟨d, hd⟩ : ∃ d, d = ofN neg bs' sc' := ⟨_, rfl⟩
    have hv : checkE d = 0 := by rw [hd]; exact ofN_check _ _ _
    have hdl := check_len hv
    have hd40 : d.dig.length ≤ 40 := by rw [hd]; exact ofN_bound _ _ _ hl'
    obtain ⟨r, e, hr⟩ : ∃ r e, roundE d s mm = (r, e) := ⟨_, _, rfl⟩
    -- region 3  law.go:217
    refine awp_rseq [2, 3, 4] (by rfl) fun K hK => ?_
    simp (decide := true) only [ev, absV, absS, putD, Slots.put, Slots.get, if_true, if_false, true_and, ↓ap_fieldAddr, pop_fieldAddr, fa24_2, ↓ap_loadL, apL_mk, pLoad_one ag5, ↓ap_binOp, pop_binOp, pBinX_int, pI_rem, rd_ne', ne_eq, not_false_eq_true, ne_0q1_0q0.symm, rd_any, List.getD_cons_zero, List.getD_cons_succ, Nat.zero_add, lv_int]
    try simp (disch := omega) only [Int.tmod_eq_emod_of_nonneg]
    repeat (with_reducible refine And.intro ?_ ?_; · first | trivial | omega | (intro hg; simp only [Bool.and_eq_true, Bool.or_eq_true, Bool.not_eq_true', Bool.and_eq_false_iff, Bool.or_eq_false_iff, Bool.not_eq_false', decide_eq_true_eq, decide_eq_false_iff_not, eqNil] at hg; omega))
    refine aOps_store (by rfl) (by rfl) (by repeat (first | exact AHeap.set_same _ _ _ | assumption | refine (AHeap.set_ne _ _ (by first | assumption | exact Ne.symm (by assumption))).trans ?_)) sz5 (by rfl) (by rfl) (by first | exact Nat.le_refl _ | decide | (simp; done) | (simp; omega)) (Nat.zero_le _) (by rfl) ?_
    simp only [AVal.cells]
    simp (decide := true) only [aOps_nil, ev, putD, Slots.get, Slots.keep, if_true, if_false, setAt, List.set_cons_zero, List.set_cons_succ]
    rw [hsc]
    apply hK; clear hK K
    -- region 4  law.go:218
    refine awp_rseq [2, 4, 7] (by rfl) fun K hK => ?_
    simp (decide := true) only [ev, putD, Slots.put, Slots.get, if_true, if_false, true_and, ↓ap_loadL, apL_mk, pLoad_agg ag24 sz24, rd_any, cellsAt, List.getD_cons_zero, List.getD_cons_succ, Nat.zero_add, Nat.reduceAdd, lv_bool, lv_int, allLive, Bool.and_true, hlv']
    repeat (with_reducible refine And.intro ?_ ?_; · first | trivial | omega | (intro hg; simp only [Bool.and_eq_true, Bool.or_eq_true, Bool.not_eq_true', Bool.and_eq_false_iff, Bool.or_eq_false_iff, Bool.not_eq_false', decide_eq_true_eq, decide_eq_false_iff_not, eqNil] at hg; omega))
    refine aOps_callV (V := decA d) (by rfl) (by rfl) ((c_ofN w₀ _ neg y bs' sc' (hb'.mono (by repeat (first | exact Sub.refl _ | refine Sub.trans_set ?_ (by assumption)))) (by omega)).val (by rw [hd])) ?_
    refine aOps_alloc ze28 (cs := [.bool false, .str [], .int .i64 0]) (by rfl) fun k4q2 hk4q2 => ?_
    have ne_4q2_0q0 : k4q2 ≠ k0q0 := by simp only [AHeap.set_none] at hk4q2; simp only [hk4q2, ne_eq, not_false_eq_true]
    have ne_4q2_0q1 : k4q2 ≠ k0q1 := by simp only [AHeap.set_none] at hk4q2; simp only [hk4q2, ne_eq, not_false_eq_true]
    try have hf_4q2 : h k4q2 = none := by first | assumption | (simp only [AHeap.set_none] at hk4q2; simp only [hk4q2])
    refine aOps_store (by rfl) (by rfl) (by repeat (first | exact AHeap.set_same _ _ _ | assumption | refine (AHeap.set_ne _ _ (by first | assumption | exact Ne.symm (by assumption))).trans ?_)) sz28 (by rfl) (by rfl) (by first | exact Nat.le_refl _ | decide | (simp; done) | (simp; omega)) (Nat.zero_le _) (by rfl) ?_
    simp only [AHeap.set_set, AVal.cells]
    simp (decide := true) only [aOps_nil, ev, putD, Slots.put, Slots.get, Slots.keep, if_true, if_false, setAt, List.set_cons_zero, List.set_cons_succ, Nat.zero_add, Nat.reduceAdd, decA]
    repeat (with_reducible refine And.intro ?_ ?_; · first | trivial | omega | (intro hg; simp only [Bool.and_eq_true, Bool.or_eq_true, Bool.not_eq_true', Bool.and_eq_false_iff, Bool.or_eq_false_iff, Bool.not_eq_false', decide_eq_true_eq, decide_eq_false_iff_not, eqNil] at hg; omega))
    apply hK; clear hK K
    -- region 5  law.go:219
    refine awp_rseq [2, 7, 9] (by rfl) fun K hK => ?_
    simp (decide := true) only [ev, putD, Slots.put, Slots.get, if_true, if_false, true_and, ↓ap_loadL, apL_mk, pLoad_agg ag26 sz26, rd_ne', ne_eq, not_false_eq_true, ne_0q1_0q0, ne_4q2_0q1.symm, rd_any, cellsAt, List.getD_cons_zero, List.getD_cons_succ, Nat.zero_add, lv_int, allLive, Bool.and_true]
    repeat (with_reducible refine And.intro ?_ ?_; · first | trivial | omega | (intro hg; simp only [Bool.and_eq_true, Bool.or_eq_true, Bool.not_eq_true', Bool.and_eq_false_iff, Bool.or_eq_false_iff, Bool.not_eq_false', decide_eq_true_eq, decide_eq_false_iff_not, eqNil] at hg; omega))
    refine aOps_callV (V := .tuple [.int .i64 (gDig a), .int .i64 s]) (by rfl) (by rfl) ((c_gridOf w₀ _ a b).val (by rw [hs])) ?_
    simp (decide := true) only [aOps_nil, ev, putD, Slots.put, Slots.get, Slots.keep, if_true, if_false, true_and, ↓ap_move, pop_move, ↓ap_extract, pop_extract, pExt_tuple, List.length_cons, List.length_nil, List.getD_cons_zero, List.getD_cons_succ, ↓ap_assign, pop_assign, List.getD_cons_zero, List.getD_cons_succ, Nat.zero_add, Nat.reduceAdd]
    repeat (with_reducible refine And.intro ?_ ?_; · first | trivial | omega | (intro hg; simp only [Bool.and_eq_true, Bool.or_eq_true, Bool.not_eq_true', Bool.and_eq_false_iff, Bool.or_eq_false_iff, Bool.not_eq_false', decide_eq_true_eq, decide_eq_false_iff_not, eqNil] at hg; omega))
    apply hK; clear hK K
    -- region 6  law.go:220
    refine awp_rseq [7, 9, 10] (by rfl) fun K hK => ?_
    simp (decide := true) only [aOps_nil, ev, absV, absS, putD, Slots.put, Slots.get, Slots.keep, if_true, if_false, true_and, ↓ap_move, pop_move, ↓ap_binOp, pop_binOp, pBinX_int, pI_rem, ↓ap_assign, pop_assign]
    try simp (disch := omega) only [Int.tmod_eq_emod_of_nonneg]
    rw [← hmm]
    apply hK; clear hK K
    -- region 7  law.go:221
    refine awp_rseq [7, 9, 10, 11, 12] (by rfl) fun K hK => ?_
    simp (decide := true) only [ev, putD, Slots.put, Slots.get, if_true, if_false, true_and, ↓ap_loadL, apL_mk, pLoad_agg ag28 sz28, ↓ap_move, pop_move, rd_any, cellsAt, List.getD_cons_zero, List.getD_cons_succ, Nat.zero_add, Nat.reduceAdd, lv_bool, lv_int, lv_str, allLive, Bool.and_true]
    repeat (with_reducible refine And.intro ?_ ?_; · first | trivial | omega | (intro hg; simp only [Bool.and_eq_true, Bool.or_eq_true, Bool.not_eq_true', Bool.and_eq_false_iff, Bool.or_eq_false_iff, Bool.not_eq_false', decide_eq_true_eq, decide_eq_false_iff_not, eqNil] at hg; omega))
    refine aOps_callV (V := .tuple [decA r, .int .i64 e]) (by rfl) (by rfl) ((c_Round w₀ _ d s mm hdl (by omega) (by omega) mm0.1).val (by rw [hr])) ?_
    simp (decide := true) only [ev, putD, Slots.put, Slots.get, if_true, if_false, true_and, ↓ap_move, pop_move, ↓ap_extract, pop_extract, pExt_tuple, List.length_cons, List.length_nil, List.getD_cons_zero, List.getD_cons_succ, List.getD_cons_zero, List.getD_cons_succ, Nat.zero_add, Nat.reduceAdd, decA]
    repeat (with_reducible refine And.intro ?_ ?_; · first | trivial | omega | (intro hg; simp only [Bool.and_eq_true, Bool.or_eq_true, Bool.not_eq_true', Bool.and_eq_false_iff, Bool.or_eq_false_iff, Bool.not_eq_false', decide_eq_true_eq, decide_eq_false_iff_not, eqNil] at hg; omega))
    refine aOps_alloc ze28 (cs := [.bool false, .str [], .int .i64 0]) (by rfl) fun k7q7 hk7q7 => ?_
    have ne_7q7_0q0 : k7q7 ≠ k0q0 := by simp only [AHeap.set_none] at hk7q7; simp only [hk7q7, ne_eq, not_false_eq_true]
    have ne_7q7_0q1 : k7q7 ≠ k0q1 := by simp only [AHeap.set_none] at hk7q7; simp only [hk7q7, ne_eq, not_false_eq_true]
    have ne_7q7_4q2 : k7q7 ≠ k4q2 := by simp only [AHeap.set_none] at hk7q7; simp only [hk7q7, ne_eq, not_false_eq_true]
    try have hf_7q7 : h k7q7 = none := by first | assumption | (simp only [AHeap.set_none] at hk7q7; simp only [hk7q7])
    refine aOps_store (by rfl) (by rfl) (by repeat (first | exact AHeap.set_same _ _ _ | assumption | refine (AHeap.set_ne _ _ (by first | assumption | exact Ne.symm (by assumption))).trans ?_)) sz28 (by rfl) (by rfl) (by first | exact Nat.le_refl _ | decide | (simp; done) | (simp; omega)) (Nat.zero_le _) (by rfl) ?_
    simp only [AHeap.set_set, AVal.cells]
    simp (decide := true) only [aOps_nil, ev, putD, Slots.put, Slots.get, Slots.keep, if_true, if_false, true_and, ↓ap_assign, pop_assign, setAt, List.set_cons_zero, List.set_cons_succ, Nat.zero_add, Nat.reduceAdd]
    repeat (with_reducible refine And.intro ?_ ?_; · first | trivial | omega | (intro hg; simp only [Bool.and_eq_true, Bool.or_eq_true, Bool.not_eq_true', Bool.and_eq_false_iff, Bool.or_eq_false_iff, Bool.not_eq_false', decide_eq_true_eq, decide_eq_false_iff_not, eqNil] at hg; omega))
    apply hK; clear hK K
    -- region 8  law.go:222
    refine awp_rseq [7, 10, 11, 12, 13] (by rfl) fun K hK => ?_
    simp (decide := true) only [ev, absV, absS, putD, Slots.put, Slots.get, if_true, if_false, true_and, ↓ap_move, pop_move, ↓ap_unOp, pop_unOp, pU_neg, ↓ap_max, pop_max, pMax_int, evs, List.map_cons, List.map_nil]
    try simp (disch := omega) only [wrap_i64]
    repeat (with_reducible refine And.intro ?_ ?_; · first | trivial | omega | (intro hg; simp only [Bool.and_eq_true, Bool.or_eq_true, Bool.not_eq_true', Bool.and_eq_false_iff, Bool.or_eq_false_iff, Bool.not_eq_false', decide_eq_true_eq, decide_eq_false_iff_not, eqNil] at hg; omega))
    refine aOps_callV (V := decA st) (by rfl) (by rfl) ((c_power w₀ _ (max (0 - s) 0) (max s 0) (by omega) (by omega) (by omega) (by omega)).val (by rw [hst, step_pow])) ?_
    refine aOps_alloc ze28 (cs := [.bool false, .str [], .int .i64 0]) (by rfl) fun k8q6 hk8q6 => ?_
    have ne_8q6_0q0 : k8q6 ≠ k0q0 := by simp only [AHeap.set_none] at hk8q6; simp only [hk8q6, ne_eq, not_false_eq_true]
    have ne_8q6_0q1 : k8q6 ≠ k0q1 := by simp only [AHeap.set_none] at hk8q6; simp only [hk8q6, ne_eq, not_false_eq_true]
    have ne_8q6_4q2 : k8q6 ≠ k4q2 := by simp only [AHeap.set_none] at hk8q6; simp only [hk8q6, ne_eq, not_false_eq_true]
    have ne_8q6_7q7 : k8q6 ≠ k7q7 := by simp only [AHeap.set_none] at hk8q6; simp only [hk8q6, ne_eq, not_false_eq_true]
    try have hf_8q6 : h k8q6 = none := by first | assumption | (simp only [AHeap.set_none] at hk8q6; simp only [hk8q6])
    refine aOps_store (by rfl) (by rfl) (by repeat (first | exact AHeap.set_same _ _ _ | assumption | refine (AHeap.set_ne _ _ (by first | assumption | exact Ne.symm (by assumption))).trans ?_)) sz28 (by rfl) (by rfl) (by first | exact Nat.le_refl _ | decide | (simp; done) | (simp; omega)) (Nat.zero_le _) (by rfl) ?_
    simp only [AHeap.set_set, AVal.cells]
    simp (decide := true) only [aOps_nil, ev, putD, Slots.put, Slots.get, Slots.keep, if_true, if_false, setAt, List.set_cons_zero, List.set_cons_succ, Nat.zero_add, Nat.reduceAdd, decA]
    repeat (with_reducible refine And.intro ?_ ?_; · first | trivial | omega | (intro hg; simp only [Bool.and_eq_true, Bool.or_eq_true, Bool.not_eq_true', Bool.and_eq_false_iff, Bool.or_eq_false_iff, Bool.not_eq_false', decide_eq_true_eq, decide_eq_false_iff_not, eqNil] at hg; omega))
    apply hK; clear hK K
    refine awp_seq ?_
    -- region 9  law.go:223
    refine awp_rseq [7, 10, 11, 13, 55] (by rfl) fun K hK => ?_
    simp (decide := true) only [aOps_nil, ev, absV, absS, putD, Slots.put, Slots.get, Slots.keep, if_true, if_false, true_and, ↓ap_move, pop_move, ↓ap_binOp, pop_binOp, pBinX_int, pI_neq]
    repeat (with_reducible refine And.intro ?_ ?_; · first | trivial | omega | (intro hg; simp only [Bool.and_eq_true, Bool.or_eq_true, Bool.not_eq_true', Bool.and_eq_false_iff, Bool.or_eq_false_iff, Bool.not_eq_false', decide_eq_true_eq, decide_eq_false_iff_not, eqNil] at hg; omega))
    apply hK; clear hK K
    refine awp_cond (b := _) rfl (fun hb2 => ?_) (fun hb2 => ?_)
    · try simp only [decide_eq_false_iff_not, Bool.not_eq_true'] at hb2
      -- region 10  law.go:224
      refine awp_rseq [6] (by rfl) fun K hK => ?_
      simp (decide := true) only [ev, putD, Slots.put, Slots.get, if_true, if_false, true_and, ↓ap_loadL, apL_mk, pLoad_agg ag28 sz28, rd_any, cellsAt, List.getD_cons_zero, List.getD_cons_succ, Nat.zero_add, Nat.reduceAdd, lv_bool, lv_int, lv_str, allLive, Bool.and_true]
      repeat (with_reducible refine And.intro ?_ ?_; · first | trivial | omega | (intro hg; simp only [Bool.and_eq_true, Bool.or_eq_true, Bool.not_eq_true', Bool.and_eq_false_iff, Bool.or_eq_false_iff, Bool.not_eq_false', decide_eq_true_eq, decide_eq_false_iff_not, eqNil] at hg; omega))
      refine aOps_callV (V := .int .i64 (long st)) (by rfl) (by rfl) (c_Long w₀ _ _) ?_
      simp (decide := true) only [ev, absV, absS, putD, Slots.put, Slots.get, if_true, if_false, true_and, ↓ap_binOp, pop_binOp, pBinX_int, pI_gtr, ↓ap_move, pop_move]
      repeat (with_reducible refine And.intro ?_ ?_; · first | trivial | omega | (intro hg; simp only [Bool.and_eq_true, Bool.or_eq_true, Bool.not_eq_true', Bool.and_eq_false_iff, Bool.or_eq_false_iff, Bool.not_eq_false', decide_eq_true_eq, decide_eq_false_iff_not, eqNil] at hg; omega))
      first
      | (refine aOps_yes (by rfl) ?_; refine aOps_callV (V := .bool true) (by rfl) (by rfl) (c_lives w₀ ht _) ?_)
      | (refine aOps_gcall (V := .bool true) (f := _) (cap := _) (xs := _) rfl (fun hg => ⟨rfl, ?_⟩) (fun hg => c_lives w₀ ht _) ?_; · (simp (decide := true) only [gv, nthDst, Slots.get, if_true, if_false, guardB_bool_true] at hg; simp (decide := true) only [evs, hg, List.append_nil, List.map_nil] <;> try rfl))
      simp (decide := true) only [aOps_nil, ev, absV, absS, putD, Slots.put, Slots.get, Slots.keep, if_true, if_false, true_and, gv, nthDst, guardB_bool_true, ↓ap_pick, pop_pick, pPick_bool, pickV_cond_l, pickV_and, ↓ap_assign, pop_assign, Bool.and_true]
      repeat (with_reducible refine And.intro ?_ ?_; · first | trivial | omega | (intro hg; simp only [Bool.and_eq_true, Bool.or_eq_true, Bool.not_eq_true', Bool.and_eq_false_iff, Bool.or_eq_false_iff, Bool.not_eq_false', decide_eq_true_eq, decide_eq_false_iff_not, eqNil] at hg; omega))
      apply hK; clear hK K
      refine awp_ret ?_
      try simp only [thenA_ret]
      refine retA_ret h (by repeat (first | exact Sub.refl _ | refine Sub.trans_set ?_ (by assumption))) (resPre_tmp (resPre_nil)) ?_
      simp (decide := true) only [Slots.get, if_true, and_true, resOf_one]
      have h62 : s = -62 := near_err hv hd40 s mm s0 s1 mm0.2 (by rw [hr]; exact hb2)
      have : 62 < long st := by rw [hst, h62]; exact long_step
      simp [this]
    · try simp only [decide_eq_true_eq, Bool.not_eq_false'] at hb2
      have he : e = 0 := by simpa using hb2
      obtain ⟨hrc, sg, T, K, hK, hsub, hT1, hT2⟩ := near_law hv s mm s0 s1 mm0.1 mm0.2 (by rw [hr]; exact he)
      rw [hr] at hrc hsub
      simp only at hrc hsub
      obtain ⟨z, f, hz⟩ : ∃ z f, subE d r = (z, f) := ⟨_, _, rfl⟩
      refine awp_skip ?_
      change Awp _ _ _ _ _ _ _
      -- region 11  law.go:226
      refine awp_rseq [10, 13, 14, 15] (by rfl) fun K hK => ?_
      simp (decide := true) only [ev, putD, Slots.put, Slots.get, if_true, if_false, true_and, ↓ap_loadL, apL_mk, pLoad_agg ag28 sz28, rd_ne', ne_eq, not_false_eq_true, ne_7q7_4q2.symm, ne_8q6_4q2.symm, ne_8q6_7q7.symm, rd_any, cellsAt, List.getD_cons_zero, List.getD_cons_succ, Nat.zero_add, Nat.reduceAdd, lv_bool, lv_int, lv_str, allLive, Bool.and_true]
      repeat (with_reducible refine And.intro ?_ ?_; · first | trivial | omega | (intro hg; simp only [Bool.and_eq_true, Bool.or_eq_true, Bool.not_eq_true', Bool.and_eq_false_iff, Bool.or_eq_false_iff, Bool.not_eq_false', decide_eq_true_eq, decide_eq_false_iff_not, eqNil] at hg; omega))
      refine aOps_callV (V := .tuple [decA z, .int .i64 f]) (by rfl) (by rfl) ((c_Sub w₀ _ d r hdl (check_len hrc)).val (by rw [hz])) ?_
      simp (decide := true) only [ev, putD, Slots.put, Slots.get, if_true, if_false, true_and, ↓ap_move, pop_move, ↓ap_extract, pop_extract, pExt_tuple, List.length_cons, List.length_nil, List.getD_cons_zero, List.getD_cons_succ, List.getD_cons_zero, List.getD_cons_succ, Nat.zero_add, Nat.reduceAdd, decA]
      repeat (with_reducible refine And.intro ?_ ?_; · first | trivial | omega | (intro hg; simp only [Bool.and_eq_true, Bool.or_eq_true, Bool.not_eq_true', Bool.and_eq_false_iff, Bool.or_eq_false_iff, Bool.not_eq_false', decide_eq_true_eq, decide_eq_false_iff_not, eqNil] at hg; omega))
      refine aOps_alloc ze28 (cs := [.bool false, .str [], .int .i64 0]) (by rfl) fun k11q6 hk11q6 => ?_
      have ne_11q6_0q0 : k11q6 ≠ k0q0 := by simp only [AHeap.set_none] at hk11q6; simp only [hk11q6, ne_eq, not_false_eq_true]
      have ne_11q6_0q1 : k11q6 ≠ k0q1 := by simp only [AHeap.set_none] at hk11q6; simp only [hk11q6, ne_eq, not_false_eq_true]
      have ne_11q6_4q2 : k11q6 ≠ k4q2 := by simp only [AHeap.set_none] at hk11q6; simp only [hk11q6, ne_eq, not_false_eq_true]
      have ne_11q6_7q7 : k11q6 ≠ k7q7 := by simp only [AHeap.set_none] at hk11q6; simp only [hk11q6, ne_eq, not_false_eq_true]
      have ne_11q6_8q6 : k11q6 ≠ k8q6 := by simp only [AHeap.set_none] at hk11q6; simp only [hk11q6, ne_eq, not_false_eq_true]
      try have hf_11q6 : h k11q6 = none := by first | assumption | (simp only [AHeap.set_none] at hk11q6; simp only [hk11q6])
      refine aOps_store (by rfl) (by rfl) (by repeat (first | exact AHeap.set_same _ _ _ | assumption | refine (AHeap.set_ne _ _ (by first | assumption | exact Ne.symm (by assumption))).trans ?_)) sz28 (by rfl) (by rfl) (by first | exact Nat.le_refl _ | decide | (simp; done) | (simp; omega)) (Nat.zero_le _) (by rfl) ?_
      simp only [AHeap.set_set, AVal.cells]
      simp (decide := true) only [aOps_nil, ev, putD, Slots.put, Slots.get, Slots.keep, if_true, if_false, true_and, ↓ap_assign, pop_assign, setAt, List.set_cons_zero, List.set_cons_succ, Nat.zero_add, Nat.reduceAdd]
      repeat (with_reducible refine And.intro ?_ ?_; · first | trivial | omega | (intro hg; simp only [Bool.and_eq_true, Bool.or_eq_true, Bool.not_eq_true', Bool.and_eq_false_iff, Bool.or_eq_false_iff, Bool.not_eq_false', decide_eq_true_eq, decide_eq_false_iff_not, eqNil] at hg; omega))
      apply hK; clear hK K
      refine awp_seq ?_
      -- region 12  law.go:227
      refine awp_rseq [10, 13, 14, 74] (by rfl) fun K hK => ?_
      simp (decide := true) only [ev, absV, absS, putD, Slots.put, Slots.get, if_true, if_false, true_and, ↓ap_move, pop_move, ↓ap_binOp, pop_binOp, pBinX_int, pI_neq, ↓ag_loadL, agQL_some, agL_mk, agP, nthDst, gKnown_bool, guardB_bool_false, implies_true, Bool.not_not, Bool.and_true, pLoad_agg ag28 sz28, rd_ne', ne_eq, not_false_eq_true, ne_11q6_8q6.symm, rd_any, cellsAt, List.getD_cons_zero, List.getD_cons_succ, Nat.zero_add, Nat.reduceAdd, lv_bool, lv_int, lv_str, allLive, Bool.and_true]
      repeat (with_reducible refine And.intro ?_ ?_; · first | trivial | omega | (intro hg; simp only [Bool.and_eq_true, Bool.or_eq_true, Bool.not_eq_true', Bool.and_eq_false_iff, Bool.or_eq_false_iff, Bool.not_eq_false', decide_eq_true_eq, decide_eq_false_iff_not, eqNil] at hg; omega))
      first
      | (refine aOps_yes (by rfl) ?_; refine aOps_callV (V := .int .i64 (long st)) (by rfl) (by rfl) (c_Long w₀ _ _) ?_)
      | (refine aOps_gcall (V := .int .i64 (long st)) (f := _) (cap := _) (xs := _) rfl (fun hg => ⟨rfl, ?_⟩) (fun hg => c_Long w₀ _ _) ?_; · (simp (decide := true) only [gv, nthDst, Slots.get, if_true, if_false, guardB_bool_false, Bool.not_not] at hg; simp (decide := true) only [evs, ev, Slots.get, if_true, if_false, hg, condV_true, List.append_nil, List.map_cons, List.map_nil] <;> try rfl))
      simp (decide := true) only [aOps_nil, ev, absV, absS, putD, Slots.put, Slots.get, Slots.keep, if_true, if_false, true_and, gv, nthDst, guardB_bool_false, ↓ag_binOp, pop_binOp, agP, agQ_some, gKnown_bool, implies_true, Bool.not_not, cv_binl, cp_binl, pBinX_int, pI_gtr, ↓ap_pick, pop_pick, pPick_bool, pickV_cond_rn, pickV_or]
      repeat (with_reducible refine And.intro ?_ ?_; · first | trivial | omega | (intro hg; simp only [Bool.and_eq_true, Bool.or_eq_true, Bool.not_eq_true', Bool.and_eq_false_iff, Bool.or_eq_false_iff, Bool.not_eq_false', decide_eq_true_eq, decide_eq_false_iff_not, eqNil] at hg; omega))
      apply hK; clear hK K
      refine awp_cond (b := _) rfl (fun hb3 => ?_) (fun hb3 => ?_)
      · try simp only [decide_eq_true_eq, decide_eq_false_iff_not, Bool.not_eq_true', Bool.or_eq_true] at hb3
        -- region 13  law.go:228
        refine awp_rseq [6] (by rfl) fun K hK => ?_
        refine aOps_callV (V := .bool true) (by rfl) (by rfl) (c_lives w₀ ht _) ?_
        simp (decide := true) only [aOps_nil, ev, putD, Slots.put, Slots.get, Slots.keep, if_true, if_false, true_and, ↓ap_assign, pop_assign]
        repeat (with_reducible refine And.intro ?_ ?_; · first | trivial | omega | (intro hg; simp only [Bool.and_eq_true, Bool.or_eq_true, Bool.not_eq_true', Bool.and_eq_false_iff, Bool.or_eq_false_iff, Bool.not_eq_false', decide_eq_true_eq, decide_eq_false_iff_not, eqNil] at hg; omega))
        apply hK; clear hK K
        refine awp_ret ?_
        try simp only [thenA_ret]
        refine retA_ret h (by repeat (first | exact Sub.refl _ | refine Sub.trans_set ?_ (by assumption))) (resPre_tmp (resPre_nil)) ?_
        simp (decide := true) only [Slots.get, if_true, and_true, resOf_one]
        all_goals first | rfl | exact ⟨rfl, rfl⟩ | (simp (decide := true) only [if_true, if_false, *]; done) | (trace_state; fail)
      · try simp only [decide_eq_true_eq, decide_eq_false_iff_not, Bool.not_eq_false', Bool.or_eq_false_iff] at hb3
        have hf : f = 0 ∧ long st ≤ 62 := by
          revert hb3
          simp <;> omega
        obtain ⟨hf0, hst62⟩ := hf
        have hz1 : resE (canon sg T K) = (z, 0) := by rw [← hsub, hz, hf0]
        obtain ⟨hzc, hzl⟩ := canon_ok hz1
        have hzn : (⟨false, z.dig, z.scale⟩ : D) = canon false T K := by rw [hzc]; exact canon_neg _ _ _
        have hzv : checkE ⟨false, z.dig, z.scale⟩ = 0 := by rw [hzn]; exact check_canon _ _ _ (by rw [← hzn]; exact hzl)
        have hst62' : long (stepsD false 1 s) ≤ 62 := by rw [← hst]; exact hst62
        obtain ⟨q, g, hy⟩ : ∃ q g, addE ⟨false, z.dig, z.scale⟩ ⟨false, z.dig, z.scale⟩ = (q, g) := ⟨_, _, rfl⟩
        refine awp_skip ?_
        change Awp _ _ _ _ _ _ _
        -- region 14  law.go:230
        refine awp_rseq [10, 13, 14] (by rfl) fun K hK => ?_
        simp (decide := true) only [ev, putD, Slots.put, Slots.get, if_true, if_false, true_and, ↓ap_fieldAddr, pop_fieldAddr, fa28_0, Nat.zero_add]
        repeat (with_reducible refine And.intro ?_ ?_; · first | trivial | omega | (intro hg; simp only [Bool.and_eq_true, Bool.or_eq_true, Bool.not_eq_true', Bool.and_eq_false_iff, Bool.or_eq_false_iff, Bool.not_eq_false', decide_eq_true_eq, decide_eq_false_iff_not, eqNil] at hg; omega))
        refine aOps_store (by rfl) (by rfl) (by repeat (first | exact AHeap.set_same _ _ _ | assumption | refine (AHeap.set_ne _ _ (by first | assumption | exact Ne.symm (by assumption))).trans ?_)) sz4 (by rfl) (by rfl) (by first | exact Nat.le_refl _ | decide | (simp; done) | (simp; omega)) (Nat.zero_le _) (by rfl) ?_
        simp only [AHeap.set_set, AVal.cells]
        simp (decide := true) only [aOps_nil, ev, absV, absS, putD, Slots.keep, if_true, if_false, setAt, List.set_cons_zero]
        repeat (with_reducible refine And.intro ?_ ?_; · first | trivial | omega | (intro hg; simp only [Bool.and_eq_true, Bool.or_eq_true, Bool.not_eq_true', Bool.and_eq_false_iff, Bool.or_eq_false_iff, Bool.not_eq_false', decide_eq_true_eq, decide_eq_false_iff_not, eqNil] at hg; omega))
        apply hK; clear hK K
        refine awp_seq ?_
        -- region 15  law.go:231
        refine awp_rseq [10, 13, 14, 82] (by rfl) fun K hK => ?_
        simp (decide := true) only [aOps_nil, ev, absV, absS, putD, Slots.put, Slots.get, Slots.keep, if_true, if_false, true_and, ↓ap_move, pop_move, ↓ap_binOp, pop_binOp, pBinX_int, pI_geq, ↓ag_move, agP, agQ_some, nthDst, gKnown_bool, guardB_bool_true, implies_true, ↓ag_binOp, cv_binl, cp_binl, pI_leq, ↓ap_pick, pop_pick, pPick_bool, pickV_cond_l, pickV_and]
        repeat (with_reducible refine And.intro ?_ ?_; · first | trivial | omega | (intro hg; simp only [Bool.and_eq_true, Bool.or_eq_true, Bool.not_eq_true', Bool.and_eq_false_iff, Bool.or_eq_false_iff, Bool.not_eq_false', decide_eq_true_eq, decide_eq_false_iff_not, eqNil] at hg; omega))
        apply hK; clear hK K
        refine awp_joinT [10, 13, 14] (fun x : D => [(10, .int .u8 mm), (13, .ptr (.own k8q6) 0), (14, .ptr (.own k11q6) 0)]) (fun x : D => ((((((h.set k0q0 ⟨[.bool neg, y, .int .u8 sc.toNat], 0⟩).set k0q1 ⟨[.int .u8 a.toNat, .int .u8 b.toNat], 0⟩).set k0q0 ⟨[.bool neg, y, .int .u8 sc'.toNat], 0⟩).set k4q2 ⟨[.bool d.neg, .str d.dig, .int .i64 d.scale], 0⟩).set k7q7 ⟨[.bool r.neg, .str r.dig, .int .i64 r.scale], 0⟩).set k8q6 ⟨[.bool st.neg, .str st.dig, .int .i64 st.scale], 0⟩).set k11q6 ⟨[.bool x.neg, .str x.dig, .int .i64 x.scale], 0⟩) (fun x : D => checkE x = 0 ∧ ∃ T', x = canon false T' K ∧ (T' < stepN s K ∨ (T' ≤ stepN s K ∧ (1 ≤ mm ∧ mm ≤ 3)))) ?_ ?_
        · refine awp_cond (b := _) rfl (fun hb4 => ?_) (fun hb4 => ?_)
          · try simp only [decide_eq_true_eq, Bool.and_eq_true] at hb4
            -- region 16  law.go:232
            refine awp_rseq [10, 13, 14, 16, 17] (by rfl) fun K hK => ?_
            simp (decide := true) only [ev, putD, Slots.put, Slots.get, if_true, if_false, true_and, ↓ap_loadL, apL_mk, pLoad_agg ag28 sz28, rd_any, cellsAt, List.getD_cons_zero, List.getD_cons_succ, Nat.zero_add, Nat.reduceAdd, lv_bool, lv_int, lv_str, allLive, Bool.and_true]
            repeat (with_reducible refine And.intro ?_ ?_; · first | trivial | omega | (intro hg; simp only [Bool.and_eq_true, Bool.or_eq_true, Bool.not_eq_true', Bool.and_eq_false_iff, Bool.or_eq_false_iff, Bool.not_eq_false', decide_eq_true_eq, decide_eq_false_iff_not, eqNil] at hg; omega))
            refine aOps_callV (V := .tuple [decA q, .int .i64 g]) (by rfl) (by rfl) ((c_Add w₀ _ ⟨false, z.dig, z.scale⟩ ⟨false, z.dig, z.scale⟩ (check_len hzv) (check_len hzv)).val (by rw [hy])) ?_
            simp (decide := true) only [ev, putD, Slots.put, Slots.get, if_true, if_false, true_and, ↓ap_move, pop_move, ↓ap_extract, pop_extract, pExt_tuple, List.length_cons, List.length_nil, List.getD_cons_zero, List.getD_cons_succ, List.getD_cons_zero, List.getD_cons_succ, Nat.zero_add, Nat.reduceAdd, decA]
            repeat (with_reducible refine And.intro ?_ ?_; · first | trivial | omega | (intro hg; simp only [Bool.and_eq_true, Bool.or_eq_true, Bool.not_eq_true', Bool.and_eq_false_iff, Bool.or_eq_false_iff, Bool.not_eq_false', decide_eq_true_eq, decide_eq_false_iff_not, eqNil] at hg; omega))
            refine aOps_alloc ze28 (cs := [.bool false, .str [], .int .i64 0]) (by rfl) fun k16q6 hk16q6 => ?_
            have ne_16q6_0q0 : k16q6 ≠ k0q0 := by simp only [AHeap.set_none] at hk16q6; simp only [hk16q6, ne_eq, not_false_eq_true]
            have ne_16q6_0q1 : k16q6 ≠ k0q1 := by simp only [AHeap.set_none] at hk16q6; simp only [hk16q6, ne_eq, not_false_eq_true]
            have ne_16q6_4q2 : k16q6 ≠ k4q2 := by simp only [AHeap.set_none] at hk16q6; simp only [hk16q6, ne_eq, not_false_eq_true]
            have ne_16q6_7q7 : k16q6 ≠ k7q7 := by simp only [AHeap.set_none] at hk16q6; simp only [hk16q6, ne_eq, not_false_eq_true]
            have ne_16q6_8q6 : k16q6 ≠ k8q6 := by simp only [AHeap.set_none] at hk16q6; simp only [hk16q6, ne_eq, not_false_eq_true]
            have ne_16q6_11q6 : k16q6 ≠ k11q6 := by simp only [AHeap.set_none] at hk16q6; simp only [hk16q6, ne_eq, not_false_eq_true]
            try have hf_16q6 : h k16q6 = none := by first | assumption | (simp only [AHeap.set_none] at hk16q6; simp only [hk16q6])
            refine aOps_store (by rfl) (by rfl) (by repeat (first | exact AHeap.set_same _ _ _ | assumption | refine (AHeap.set_ne _ _ (by first | assumption | exact Ne.symm (by assumption))).trans ?_)) sz28 (by rfl) (by rfl) (by first | exact Nat.le_refl _ | decide | (simp; done) | (simp; omega)) (Nat.zero_le _) (by rfl) ?_
            simp only [AHeap.set_set, AVal.cells]
            simp (decide := true) only [aOps_nil, ev, putD, Slots.put, Slots.get, Slots.keep, if_true, if_false, true_and, ↓ap_assign, pop_assign, setAt, List.set_cons_zero, List.set_cons_succ, Nat.zero_add, Nat.reduceAdd]
            repeat (with_reducible refine And.intro ?_ ?_; · first | trivial | omega | (intro hg; simp only [Bool.and_eq_true, Bool.or_eq_true, Bool.not_eq_true', Bool.and_eq_false_iff, Bool.or_eq_false_iff, Bool.not_eq_false', decide_eq_true_eq, decide_eq_false_iff_not, eqNil] at hg; omega))
            apply hK; clear hK K
            -- region 17  law.go:233
            refine awp_rseq [10, 13, 14, 17] (by rfl) fun K hK => ?_
            simp (decide := true) only [ev, putD, Slots.put, Slots.get, if_true, if_false, true_and, ↓ap_loadL, apL_mk, pLoad_agg ag28 sz28, rd_any, cellsAt, List.getD_cons_zero, List.getD_cons_succ, Nat.zero_add, Nat.reduceAdd, lv_bool, lv_int, lv_str, allLive, Bool.and_true]
            repeat (with_reducible refine And.intro ?_ ?_; · first | trivial | omega | (intro hg; simp only [Bool.and_eq_true, Bool.or_eq_true, Bool.not_eq_true', Bool.and_eq_false_iff, Bool.or_eq_false_iff, Bool.not_eq_false', decide_eq_true_eq, decide_eq_false_iff_not, eqNil] at hg; omega))
            refine aOps_store (by rfl) (by rfl) (by repeat (first | exact AHeap.set_same _ _ _ | assumption | refine (AHeap.set_ne _ _ (by first | assumption | exact Ne.symm (by assumption))).trans ?_)) sz28 (by rfl) (by rfl) (by first | exact Nat.le_refl _ | decide | (simp; done) | (simp; omega)) (Nat.zero_le _) (by rfl) ?_
            simp only [AVal.cells]
            simp (decide := true) only [aOps_nil, ev, putD, Slots.get, Slots.keep, if_true, if_false, setAt, List.set_cons_zero, List.set_cons_succ, Nat.zero_add, Nat.reduceAdd]
            repeat (with_reducible refine And.intro ?_ ?_; · first | trivial | omega | (intro hg; simp only [Bool.and_eq_true, Bool.or_eq_true, Bool.not_eq_true', Bool.and_eq_false_iff, Bool.or_eq_false_iff, Bool.not_eq_false', decide_eq_true_eq, decide_eq_false_iff_not, eqNil] at hg; omega))
            apply hK; clear hK K
            -- region 18  law.go:234
            refine awp_rseq [10, 13, 14, 91] (by rfl) fun K hK => ?_
            simp (decide := true) only [aOps_nil, ev, absV, absS, putD, Slots.put, Slots.get, Slots.keep, if_true, if_false, true_and, ↓ap_move, pop_move, ↓ap_binOp, pop_binOp, pBinX_int, pI_neq]
            repeat (with_reducible refine And.intro ?_ ?_; · first | trivial | omega | (intro hg; simp only [Bool.and_eq_true, Bool.or_eq_true, Bool.not_eq_true', Bool.and_eq_false_iff, Bool.or_eq_false_iff, Bool.not_eq_false', decide_eq_true_eq, decide_eq_false_iff_not, eqNil] at hg; omega))
            apply hK; clear hK K
            refine awp_cond (b := _) rfl (fun hb5 => ?_) (fun hb5 => ?_)
            · try simp only [decide_eq_false_iff_not, Bool.not_eq_true'] at hb5
              -- region 19  law.go:235
              refine awp_rseq [6] (by rfl) fun K hK => ?_
              refine aOps_callV (V := .bool true) (by rfl) (by rfl) (c_lives w₀ ht _) ?_
              simp (decide := true) only [aOps_nil, ev, putD, Slots.put, Slots.get, Slots.keep, if_true, if_false, true_and, ↓ap_assign, pop_assign]
              repeat (with_reducible refine And.intro ?_ ?_; · first | trivial | omega | (intro hg; simp only [Bool.and_eq_true, Bool.or_eq_true, Bool.not_eq_true', Bool.and_eq_false_iff, Bool.or_eq_false_iff, Bool.not_eq_false', decide_eq_true_eq, decide_eq_false_iff_not, eqNil] at hg; omega))
              apply hK; clear hK K
              refine awp_ret ?_
              try simp only [thenA_ret]
              refine retA_ret h (by repeat (first | exact Sub.refl _ | refine Sub.trans_set ?_ (by assumption))) (resPre_tmp (resPre_nil)) ?_
              simp (decide := true) only [Slots.get, if_true, and_true, resOf_one]
              all_goals first | rfl | exact ⟨rfl, rfl⟩ | (simp (decide := true) only [if_true, if_false, *]; done) | (trace_state; fail)
            · try simp only [decide_eq_true_eq, Bool.not_eq_false'] at hb5
              refine awp_skip ?_
              try simp only [thenA_normal]
              first
              | exact ⟨⟨false, z.dig, z.scale⟩, rfl, Sub.refl _, hzv, T, hzn, .inl hT1⟩
              | exact ⟨q, rfl, (by rw [AHeap.set_comm _ _ _ (Ne.symm ne_16q6_11q6), AHeap.set_set]; exact Sub.set (by simp only [AHeap.set_none] at hk16q6 ⊢; exact hk16q6)), near_twice hzc hzv (by rw [hy]; simpa using hb5) (hT2 hb4.1 hb4.2) hb4⟩
          · try simp only [decide_eq_false_iff_not, Bool.and_eq_false_iff] at hb4
            refine awp_skip ?_
            try simp only [thenA_normal]
            first
            | exact ⟨⟨false, z.dig, z.scale⟩, rfl, Sub.refl _, hzv, T, hzn, .inl hT1⟩
            | exact ⟨q, rfl, (by rw [AHeap.set_comm _ _ _ (Ne.symm ne_16q6_11q6), AHeap.set_set]; exact Sub.set (by simp only [AHeap.set_none] at hk16q6 ⊢; exact hk16q6)), near_twice hzc hzv (by rw [hy]; simpa using hb5) (hT2 hb4.1 hb4.2) hb4⟩
        · rintro x ⟨hxc, T', hxe, hxT⟩
          obtain ⟨hcm, hcl⟩ := near_last hxe hxc hst62' hK (1 ≤ mm ∧ mm ≤ 3) hxT
          rw [← hst] at hcm hcl
          -- region 20  law.go:238
          refine awp_rseq [10, 18, 19] (by rfl) fun K hK => ?_
          simp (decide := true) only [ev, putD, Slots.put, Slots.get, if_true, if_false, true_and, ↓ap_loadL, apL_mk, pLoad_agg ag28 sz28, rd_ne', ne_eq, not_false_eq_true, ne_11q6_8q6.symm, rd_any, cellsAt, List.getD_cons_zero, List.getD_cons_succ, Nat.zero_add, Nat.reduceAdd, lv_bool, lv_int, lv_str, allLive, Bool.and_true]
          repeat (with_reducible refine And.intro ?_ ?_; · first | trivial | omega | (intro hg; simp only [Bool.and_eq_true, Bool.or_eq_true, Bool.not_eq_true', Bool.and_eq_false_iff, Bool.or_eq_false_iff, Bool.not_eq_false', decide_eq_true_eq, decide_eq_false_iff_not, eqNil] at hg; omega))
          refine aOps_callV (V := .tuple [.int .i64 (compareE x st).1, .int .i64 (compareE x st).2]) (by rfl) (by rfl) (c_Compare w₀ _ x st (check_len hxc) (by rw [hst]; exact check_len (check_canon _ _ _ hst62'))) ?_
          simp (decide := true) only [aOps_nil, ev, putD, Slots.put, Slots.get, Slots.keep, if_true, if_false, true_and, ↓ap_move, pop_move, ↓ap_extract, pop_extract, pExt_tuple, List.length_cons, List.length_nil, List.getD_cons_zero, List.getD_cons_succ, ↓ap_assign, pop_assign, List.getD_cons_zero, List.getD_cons_succ, Nat.zero_add, Nat.reduceAdd]
          repeat (with_reducible refine And.intro ?_ ?_; · first | trivial | omega | (intro hg; simp only [Bool.and_eq_true, Bool.or_eq_true, Bool.not_eq_true', Bool.and_eq_false_iff, Bool.or_eq_false_iff, Bool.not_eq_false', decide_eq_true_eq, decide_eq_false_iff_not, eqNil] at hg; omega))
          apply hK; clear hK K
          -- region 21  law.go:239
          refine awp_rseq [6] (by rfl) fun K hK => ?_
          simp (decide := true) only [ev, absV, absS, putD, Slots.put, Slots.get, if_true, if_false, true_and, ↓ap_move, pop_move, ↓ap_binOp, pop_binOp, pBinX_int, pI_eql, ↓ag_move, agP, agQ_some, nthDst, gKnown_bool, gKnown_cond, guardB_cond, guardB_bool_true, guardB_bool_false, cv_cv, implies_true, ↓ag_binOp, cv_binl, cp_binl, pI_lss, pI_geq, ↓ag_pick, pop_pick, pPick_bool, pickV_cond_l, cp_nest1, cp_nest2, pickV_and, pickV_or, cv_pick, cp_pick, pI_leq, ↓ap_pick]
          repeat (with_reducible refine And.intro ?_ ?_; · first | trivial | omega | (intro hg; simp only [Bool.and_eq_true, Bool.or_eq_true, Bool.not_eq_true', Bool.and_eq_false_iff, Bool.or_eq_false_iff, Bool.not_eq_false', decide_eq_true_eq, decide_eq_false_iff_not, eqNil] at hg; omega))
          first
          | (refine aOps_yes (by rfl) ?_; refine aOps_callV (V := .bool true) (by rfl) (by rfl) (c_lives w₀ ht _) ?_)
          | (refine aOps_gcall (V := .bool true) (f := _) (cap := _) (xs := _) rfl (fun hg => ⟨rfl, ?_⟩) (fun hg => c_lives w₀ ht _) ?_; · (simp (decide := true) only [gv, nthDst, Slots.get, if_true, if_false, guardB_bool_true] at hg; simp (decide := true) only [evs, hg, List.append_nil, List.map_nil] <;> try rfl))
          simp (decide := true) only [aOps_nil, ev, absV, absS, putD, Slots.put, Slots.get, Slots.keep, if_true, if_false, true_and, gv, nthDst, guardB_bool_true, ↓ap_pick, pop_pick, pPick_bool, pickV_cond_l, pickV_and, ↓ap_assign, pop_assign, Bool.and_true]
          repeat (with_reducible refine And.intro ?_ ?_; · first | trivial | omega | (intro hg; simp only [Bool.and_eq_true, Bool.or_eq_true, Bool.not_eq_true', Bool.and_eq_false_iff, Bool.or_eq_false_iff, Bool.not_eq_false', decide_eq_true_eq, decide_eq_false_iff_not, eqNil] at hg; omega))
          apply hK; clear hK K
          refine awp_ret ?_
          try simp only [thenA_ret, inBlockA_ret]
          refine retA_ret h (by repeat (first | exact Sub.refl _ | refine Sub.trans_set ?_ (by assumption))) (resPre_tmp (resPre_nil)) ?_
          simp (decide := true) only [Slots.get, if_true, and_true, resOf_one]
          rcases hcl with c | ⟨c, c1, c2⟩
          · simp [hcm, c]
          · simp [hcm, c, c1, c2]
end Go.Proofs.YtnaioficflbioaaDoor
