/-
  The statement RoundingsPlaces, walked.
  Conditions: none.
-/
import Derived.Test.YtnaioficflbioaaDoorRdR
set_option linter.unusedSimpArgs false
set_option linter.unnecessarySimpa false
set_option linter.unusedVariables false
namespace Go.Proofs.YtnaioficflbioaaDoor
open Go.AM
open Go.Proofs
open Go.Dec
open Go.Lib (decDigits)
set_option maxRecDepth 100000

/-- The digits that are not zero stand in the grid, as far as looked at. -/
def insB (d : D) (s : Int) (i : Nat) : Bool := (List.range i).all fun j => decide ((d.dig.getD j 0).toNat = 48) || decide (d.scale - ((d.dig.length : Int) - 1 - j) ≤ s)
def smlB (d : D) (g s : Int) (i : Nat) : Bool := (List.range i).all fun j => decide ((d.dig.getD j 0).toNat = 48) || decide (s - g < d.scale - ((d.dig.length : Int) - 1 - j))
theorem insB_succ (d : D) (s : Int) (i : Nat) : insB d s (i + 1) = (insB d s i && (decide ((d.dig.getD i 0).toNat = 48) || decide (d.scale - ((d.dig.length : Int) - 1 - i) ≤ s))) := by
  unfold insB; rw [List.range_succ, List.all_append]; simp
theorem smlB_succ (d : D) (g s : Int) (i : Nat) : smlB d g s (i + 1) = (smlB d g s i && (decide ((d.dig.getD i 0).toNat = 48) || decide (s - g < d.scale - ((d.dig.length : Int) - 1 - i)))) := by
  unfold smlB; rw [List.range_succ, List.all_append]; simp
theorem insB_all {d : D} (dd : d.dig.all dg = true) (s : Int) : insB d s d.dig.length = !lostB d s := by
  rw [Bool.eq_iff_iff, Bool.not_eq_true', inside_iff dd s]
  unfold insB
  simp only [List.all_eq_true, List.mem_range, Bool.or_eq_true, decide_eq_true_eq]
  constructor
  · intro h i hi hne
    rcases h i hi with e | e
    · exact absurd (UInt8.toNat_inj.1 e) hne
    · exact e
  · intro h i hi
    by_cases e : d.dig.getD i 0 = 48
    · exact .inl (by rw [e]; rfl)
    · exact .inr (h i hi e)
theorem cut_ok {d : D} (hv : checkE d = 0) (s : Int) : (cutE d s).2.1 = !lostB d s := by
  rw [cutE_val hv s]
  cases lostB d s <;> rfl
theorem smlB_all {d : D} (g s : Int) (g0 : 1 ≤ g) (hc : (cutE d s).2.1 = true) : smlB d g s d.dig.length = ((placesE d g s).1.take (((placesE d g s).1.length : Int) - g).toNat).all (· == 48) := by
  rw [Bool.eq_iff_iff, small_iff d g s g0 hc]
  unfold smlB
  simp only [List.all_eq_true, List.mem_range, Bool.or_eq_true, decide_eq_true_eq]
  constructor
  · intro h i hi hne
    rcases h i hi with e | e
    · exact absurd (UInt8.toNat_inj.1 e) hne
    · exact e
  · intro h i hi
    by_cases e : d.dig.getD i 0 = 48
    · exact .inl (by rw [e]; rfl)
    · exact .inr (h i hi e)
theorem placesE_two (d : D) (g s : Int) : (placesE d g s).2 = (cutE d s).2.1 := by
  unfold placesE
  split
  · rename_i h; rw [h]
  · rename_i h; simpa using h
theorem chk0 {d : D} (hv : checkE d = 0) {g s : Int} (g0 : 1 ≤ g) (g1 : g ≤ 62) (s0 : -62 ≤ s) (s1 : s ≤ 62) : chkR d g s = 0 := by rw [chkR, if_pos ⟨hv, g0, g1, s0, s1⟩]
theorem fits_val {d : D} (hv : checkE d = 0) {g s : Int} (g0 : 1 ≤ g) (g1 : g ≤ 62) (s0 : -62 ≤ s) (s1 : s ≤ 62) : fitsE d g s = (insB d s d.dig.length && smlB d g s d.dig.length, 0) := by
  obtain ⟨sd, dd, _, _⟩ := Small_of_check hv
  rw [fitsE, if_neg (by rw [chk0 hv g0 g1 s0 s1]; decide), placesE_two, cut_ok hv s, insB_all dd]
  cases hb : lostB d s with
  | true => rfl
  | false => rw [smlB_all g s g0 (by rw [cut_ok hv s, hb]; rfl)]
theorem digits_val {d : D} (hv : checkE d = 0) {g s : Int} (g0 : 1 ≤ g) (g1 : g ≤ 62) (s0 : -62 ≤ s) (s1 : s ≤ 62) :
    digitsE d g s = if (insB d s d.dig.length && smlB d g s d.dig.length) = true then (placesL d g s, 0) else ([], 14) := by
  obtain ⟨sd, dd, _, _⟩ := Small_of_check hv
  have hf := fits_val hv g0 g1 s0 s1
  rw [digitsE, hf, if_neg (fun e => e rfl)]
  cases hi : insB d s d.dig.length && smlB d g s d.dig.length with
  | false => rfl
  | true =>
    rw [if_neg (by decide), if_pos rfl, last_places d g s g0]
    rw [cut_ok hv s, ← insB_all dd]
    rw [Bool.and_eq_true] at hi
    exact hi.1
theorem placesL_all {d : D} (dd : d.dig.all dg = true) (g s : Int) : (placesL d g s).all dg = true := by
  unfold placesL
  rw [List.all_eq_true]
  intro x hx
  obtain ⟨i, _, rfl⟩ := List.mem_map.1 hx
  unfold digitAt
  split
  · rename_i h
    exact (dg_iff _).2 (dg_at dd ((d.dig.length : Int) - 1 - (d.scale - (s - g + 1 + (i : Int)))).toNat (by omega))
  · decide
theorem placesL_len (d : D) (g s : Int) : (placesL d g s).length = g.toNat := by simp [placesL]
/-- What Low answers, and what it is held against. -/
def lowD (d : D) (g s : Int) : D := stepsD d.neg (natOf (placesL d g s)) s
theorem low_val {d : D} (hv : checkE d = 0) {g s : Int} (g0 : 1 ≤ g) (g1 : g ≤ 62) (s0 : -62 ≤ s) (s1 : s ≤ 62) :
    lowE d g s = if insB d s d.dig.length = true then resE (lowD d g s) else (noD, 14) := by
  obtain ⟨sd, dd, _, _⟩ := Small_of_check hv
  rw [lowE, if_neg (by rw [chk0 hv g0 g1 s0 s1]; decide), placesE_two, cut_ok hv s, insB_all dd]
  cases hb : lostB d s with
  | true => rfl
  | false =>
    rw [if_neg (by decide), last_places d g s g0 (by rw [cut_ok hv s, hb]; rfl)]
    simp only [Bool.not_false, if_true]
    have hl := placesL_len d g s
    have ha := placesL_all dd g s
    have hn : numB (placesL d g s) = true := by
      unfold numB
      rw [Bool.and_eq_true]
      refine ⟨?_, ha⟩
      rw [Bool.not_eq_true', decide_eq_false_iff_not]
      intro e
      rw [e] at hl
      simp at hl
      omega
    rw [newE, if_pos ⟨hn, by omega, by omega, by omega⟩]
    rfl
theorem upTo_val {d : D} (hv : checkE d = 0) (s : Int) (hb : lostB d s = false) : stepsD d.neg (natOf (upTo d s)) s = d := by
  obtain ⟨sd, dd, _, _⟩ := Small_of_check hv
  obtain ⟨hc, _⟩ := val_canon hv
  have ha2 := sd.s0
  rcases Int.lt_or_le s d.scale with c | c
  · have hz : lostN d s = 0 := by
      unfold lostB at hb
      rw [decide_eq_true c, Bool.true_and, Bool.not_eq_false', decide_eq_true_eq] at hb
      exact hb
    have hw : natOf (upTo d s) = wholeN d s := by
      unfold upTo wholeN
      rw [if_neg (by omega)]
      by_cases c2 : (d.scale - s).toNat ≤ d.dig.length
      · rw [show (max ((d.dig.length : Int) + (s - d.scale)) 0).toNat = d.dig.length - (d.scale - s).toNat by omega]
        exact (natOf_split d.dig dd _ c2).1
      · rw [show (max ((d.dig.length : Int) + (s - d.scale)) 0).toNat = 0 by omega, List.take_zero]
        have := Nat.lt_of_lt_of_le (natOf_lt d.dig dd) (Nat.pow_le_pow_right (show 0 < 10 by omega) (show d.dig.length ≤ (d.scale - s).toNat by omega))
        rw [Nat.div_eq_of_lt this]
        rfl
    have e : natOf d.dig = wholeN d s * 10 ^ (d.scale - s).toNat := by
      have := Nat.div_add_mod (natOf d.dig) (10 ^ (d.scale - s).toNat)
      unfold lostN at hz
      unfold wholeN
      rw [hz, Nat.add_zero, Nat.mul_comm] at this
      exact this.symm
    have := canon_scaled d.neg (wholeN d s) s d.scale.toNat (by omega)
    rw [hw, ← this, show (((d.scale.toNat : Nat) : Int) - s).toNat = (d.scale - s).toNat by omega, ← e]
    exact hc.symm
  · have hw : natOf (upTo d s) = natOf d.dig * 10 ^ (s - d.scale).toNat := by
      unfold upTo
      rw [if_pos (by omega), natOf_append, natOf_zeros, List.length_replicate, Nat.add_zero]
    have := canon_mul d.neg (s - d.scale).toNat (natOf d.dig) d.scale.toNat
    rw [hw, stepsD, show (-s).toNat = 0 by omega, Nat.pow_zero, Nat.mul_one, show s.toNat = d.scale.toNat + (s - d.scale).toNat by omega, this]
    exact hc.symm
theorem stepsD_inj {neg : Bool} {m n : Nat} {s : Int} (h : stepsD neg m s = stepsD neg n s) : m = n := by
  unfold stepsD at h
  obtain ⟨h1, _⟩ := canon_inj h
  have hp : 0 < 10 ^ s.toNat := Nat.pow_pos (by omega)
  have hq : 0 < 10 ^ (-s).toNat := Nat.pow_pos (by omega)
  exact Nat.eq_of_mul_eq_mul_right hq (Nat.eq_of_mul_eq_mul_right hp h1)
theorem low_same {d : D} (hv : checkE d = 0) {g s : Int} (g0 : 1 ≤ g) (hi : insB d s d.dig.length = true) : decide (lowD d g s = d) = smlB d g s d.dig.length := by
  obtain ⟨sd, dd, _, _⟩ := Small_of_check hv
  have hb : lostB d s = false := by rw [insB_all dd] at hi; simpa using hi
  have hc : (cutE d s).2.1 = true := by rw [cut_ok hv s, hb]; rfl
  have hu := upTo_val hv s hb
  rw [smlB_all g s g0 hc]
  have hlen : g ≤ ((placesE d g s).1.length : Int) := by
    have e : (placesE d g s).1 = List.replicate (max (g - (upTo d s).length) 0).toNat 48 ++ upTo d s := by
      rw [placesE, if_neg (by rw [hc]; decide)]
      rfl
    rw [e]
    simp
    omega
  have hn : natOf (placesE d g s).1 = natOf (upTo d s) := by
    have e : (placesE d g s).1 = List.replicate (max (g - (upTo d s).length) 0).toNat 48 ++ upTo d s := by
      rw [placesE, if_neg (by rw [hc]; decide)]
      rfl
    rw [e, natOf_append, natOf_zeros, Nat.zero_mul, Nat.zero_add]
  have hsp := natOf_append ((placesE d g s).1.take (((placesE d g s).1.length : Int) - g).toNat) ((placesE d g s).1.drop (((placesE d g s).1.length : Int) - g).toNat)
  rw [List.take_append_drop, hn, last_places d g s g0 hc, placesL_len] at hsp
  have hall : ((placesE d g s).1.take (((placesE d g s).1.length : Int) - g).toNat).all dg = true := by
    have := placesE_all dd g s
    rw [List.all_eq_true] at this ⊢
    exact fun x hx => this x (List.mem_of_mem_take hx)
  have hz := natOf_zero_iff _ hall
  rw [Bool.eq_iff_iff, decide_eq_true_eq, List.all_eq_true]
  constructor
  · intro e
    have e2 : natOf (placesL d g s) = natOf (upTo d s) := stepsD_inj (e.trans hu.symm)
    have h0 : natOf ((placesE d g s).1.take (((placesE d g s).1.length : Int) - g).toNat) = 0 := by
      have hp : 0 < 10 ^ g.toNat := Nat.pow_pos (by omega)
      have : natOf ((placesE d g s).1.take (((placesE d g s).1.length : Int) - g).toNat) * 10 ^ g.toNat = 0 := by omega
      rcases Nat.mul_eq_zero.1 this with h | h
      · exact h
      · omega
    intro x hx
    simpa using hz.1 h0 x hx
  · intro h
    have h0 := hz.2 fun b hb => by simpa using h b hb
    rw [h0, Nat.zero_mul, Nat.zero_add] at hsp
    unfold lowD
    rw [← hsp, hu]

theorem eqD3 (a b : D) : (a.neg == b.neg && (decide (a.dig = b.dig) && decide (a.scale = b.scale))) = decide (a = b) := by
  cases a; cases b; rw [Bool.eq_iff_iff]; simp
theorem u8eq {a b : UInt8} : (a.toNat : Int) = b.toNat ↔ a = b := ⟨fun e => UInt8.toNat_inj.1 (by omega), fun e => by rw [e]⟩
set_option maxHeartbeats 4000000 in
theorem l_RoundingsPlaces (w₀ : World) (ht : Tab10 w₀) (h : AHeap) (neg : Bool) (v : AVal) (bs : List UInt8) (sc : UInt8) (hb : IsB w₀ h v bs) (hl : bs.length ≤ 9223372036854775807) (a b : UInt8) :
    ACall Tryd.prog w₀ 4 [.agg [.bool neg, v, .int .u8 sc.toNat], .agg [.int .u8 a.toNat, .int .u8 b.toNat]] h (fun x _ => x = .bool true) := by
  refine ACall.mono (R := fun x h' => x = .bool true ∧ h' = h) ?_ fun x h' hx => hx.1
  have hlv := hb.live
  obtain ⟨d, hd⟩ : ∃ d, d = ofN neg bs sc := ⟨_, rfl⟩
  have hv : checkE d = 0 := by rw [hd]; exact ofN_check _ _ _
  obtain ⟨sd, dd, _, _⟩ := Small_of_check hv
  have hdl := check_len hv
  have hl62 := sd.l
  have hs0' := sd.s0
  have hs1' := sd.s1
  obtain ⟨s, hs⟩ : ∃ s, s = gSc b := ⟨_, rfl⟩
  obtain ⟨s0, s1⟩ : -62 ≤ s ∧ s ≤ 62 := by rw [hs]; exact gSc_bound b
  obtain ⟨g, hg⟩ : ∃ g, g = gDig a := ⟨_, rfl⟩
  obtain ⟨g0, g1⟩ : 1 ≤ g ∧ g ≤ 62 := by rw [hg]; exact gDig_bound a
  have hf := fits_val hv g0 g1 s0 s1
  have hdg := digits_val hv g0 g1 s0 s1
  have hlw := low_val hv g0 g1 s0 s1
  refine acall_intro (n := 217) (rs := [.tmp 4]) Tryd.func4 rfl rfl rfl rfl (Nat.le_of_ble_eq_true rfl) ?_
  simp only [initSlots]
  -- region 0  law.go:244
  refine awp_rseq [2, 3] (by rfl) fun K hK => ?_
  refine aOps_box (by rfl) (by rfl) (by rfl) fun k0q0 hk0q0 => ?_
  try have hf_0q0 : h k0q0 = none := by first | assumption | (simp only [AHeap.set_none] at hk0q0; simp only [hk0q0])
  skip
  refine aOps_box (by rfl) (by rfl) (by rfl) fun k0q1 hk0q1 => ?_
  have ne_0q1_0q0 : k0q1 ≠ k0q0 := by simp only [AHeap.set_none] at hk0q1; simp only [hk0q1, ne_eq, not_false_eq_true]
  try have hf_0q1 : h k0q1 = none := by first | assumption | (simp only [AHeap.set_none] at hk0q1; simp only [hk0q1])
  skip
  simp (decide := true) only [aOps_nil, ev, absV, absS, putD, Slots.put, Slots.get, Slots.keep, if_true, if_false, true_and, ↓ap_assign, pop_assign, AVal.cells, Nat.zero_add]
  repeat (with_reducible refine And.intro ?_ ?_; · first | trivial | omega | (intro hg; simp only [Bool.and_eq_true, Bool.or_eq_true, Bool.not_eq_true', Bool.and_eq_false_iff, Bool.or_eq_false_iff, Bool.not_eq_false', decide_eq_true_eq, decide_eq_false_iff_not, eqNil] at hg; omega) | (simp only [List.length_append, List.length_map, List.length_range, List.length_replicate, List.length_take, List.length_drop, List.length_cons, List.length_nil, List.length_set, List.length_reverse]; omega))
  apply hK; clear hK K
  -- region 1  law.go:245
  refine awp_rseq [3, 5] (by rfl) fun K hK => ?_
  simp (decide := true) only [ev, putD, Slots.put, Slots.get, if_true, if_false, true_and, ↓ap_loadL, apL_mk, pLoad_agg ag24 sz24, rd_ne', ne_eq, not_false_eq_true, ne_0q1_0q0.symm, rd_any, cellsAt, List.getD_cons_zero, List.getD_cons_succ, Nat.zero_add, Nat.reduceAdd, lv_bool, lv_int, allLive, Bool.and_true, hlv]
  repeat (with_reducible refine And.intro ?_ ?_; · first | trivial | omega | (intro hg; simp only [Bool.and_eq_true, Bool.or_eq_true, Bool.not_eq_true', Bool.and_eq_false_iff, Bool.or_eq_false_iff, Bool.not_eq_false', decide_eq_true_eq, decide_eq_false_iff_not, eqNil] at hg; omega) | (simp only [List.length_append, List.length_map, List.length_range, List.length_replicate, List.length_take, List.length_drop, List.length_cons, List.length_nil, List.length_set, List.length_reverse]; omega))
  refine aOps_callV (V := decA d) (by rfl) (by rfl) ((c_ofN w₀ _ neg v bs sc (hb.mono (by repeat (first | exact Sub.refl _ | refine Sub.trans_set ?_ (by assumption)))) hl).val (by rw [hd])) ?_
  refine aOps_alloc ze28 (cs := [.bool false, .str [], .int .i64 0]) (by rfl) fun k1q2 hk1q2 => ?_
  have ne_1q2_0q0 : k1q2 ≠ k0q0 := by simp only [AHeap.set_none] at hk1q2; simp only [hk1q2, ne_eq, not_false_eq_true]
  have ne_1q2_0q1 : k1q2 ≠ k0q1 := by simp only [AHeap.set_none] at hk1q2; simp only [hk1q2, ne_eq, not_false_eq_true]
  try have hf_1q2 : h k1q2 = none := by first | assumption | (simp only [AHeap.set_none] at hk1q2; simp only [hk1q2])
  refine aOps_store (by rfl) (by rfl) (by repeat (first | exact AHeap.set_same _ _ _ | assumption | refine (AHeap.set_ne _ _ (by first | assumption | exact Ne.symm (by assumption))).trans ?_)) sz28 (by rfl) (by rfl) (by first | exact Nat.le_refl _ | decide | (simp; done) | (simp; omega)) (Nat.zero_le _) (by rfl) ?_
  simp only [AHeap.set_set, AVal.cells]
  simp (decide := true) only [aOps_nil, ev, putD, Slots.put, Slots.get, Slots.keep, if_true, if_false, setAt, List.set_cons_zero, List.set_cons_succ, Nat.zero_add, Nat.reduceAdd, decA]
  repeat (with_reducible refine And.intro ?_ ?_; · first | trivial | omega | (intro hg; simp only [Bool.and_eq_true, Bool.or_eq_true, Bool.not_eq_true', Bool.and_eq_false_iff, Bool.or_eq_false_iff, Bool.not_eq_false', decide_eq_true_eq, decide_eq_false_iff_not, eqNil] at hg; omega) | (simp only [List.length_append, List.length_map, List.length_range, List.length_replicate, List.length_take, List.length_drop, List.length_cons, List.length_nil, List.length_set, List.length_reverse]; omega))
  apply hK; clear hK K
  -- region 2  law.go:246
  refine awp_rseq [5, 6, 7] (by rfl) fun K hK => ?_
  simp (decide := true) only [ev, putD, Slots.put, Slots.get, if_true, if_false, true_and, ↓ap_loadL, apL_mk, pLoad_agg ag26 sz26, rd_ne', ne_eq, not_false_eq_true, ne_1q2_0q1.symm, rd_any, cellsAt, List.getD_cons_zero, List.getD_cons_succ, Nat.zero_add, lv_int, allLive, Bool.and_true]
  repeat (with_reducible refine And.intro ?_ ?_; · first | trivial | omega | (intro hg; simp only [Bool.and_eq_true, Bool.or_eq_true, Bool.not_eq_true', Bool.and_eq_false_iff, Bool.or_eq_false_iff, Bool.not_eq_false', decide_eq_true_eq, decide_eq_false_iff_not, eqNil] at hg; omega) | (simp only [List.length_append, List.length_map, List.length_range, List.length_replicate, List.length_take, List.length_drop, List.length_cons, List.length_nil, List.length_set, List.length_reverse]; omega))
  refine aOps_callV (V := .tuple [.int .i64 g, .int .i64 s]) (by rfl) (by rfl) ((c_gridOf w₀ _ a b).val (by rw [hs, hg])) ?_
  simp (decide := true) only [aOps_nil, ev, putD, Slots.put, Slots.get, Slots.keep, if_true, if_false, true_and, ↓ap_move, pop_move, ↓ap_extract, pop_extract, pExt_tuple, List.length_cons, List.length_nil, List.getD_cons_zero, List.getD_cons_succ, ↓ap_assign, pop_assign, List.getD_cons_zero, List.getD_cons_succ, Nat.zero_add, Nat.reduceAdd]
  repeat (with_reducible refine And.intro ?_ ?_; · first | trivial | omega | (intro hg; simp only [Bool.and_eq_true, Bool.or_eq_true, Bool.not_eq_true', Bool.and_eq_false_iff, Bool.or_eq_false_iff, Bool.not_eq_false', decide_eq_true_eq, decide_eq_false_iff_not, eqNil] at hg; omega) | (simp only [List.length_append, List.length_map, List.length_range, List.length_replicate, List.length_take, List.length_drop, List.length_cons, List.length_nil, List.length_set, List.length_reverse]; omega))
  apply hK; clear hK K
  -- region 3  law.go:248
  refine awp_rseq [5, 6, 7, 8] (by rfl) fun K hK => ?_
  simp (decide := true) only [aOps_nil, ev, absV, absS, putD, Slots.put, Slots.keep, if_true, if_false, true_and, ↓ap_assign, pop_assign]
  repeat (with_reducible refine And.intro ?_ ?_; · first | trivial | omega | (intro hg; simp only [Bool.and_eq_true, Bool.or_eq_true, Bool.not_eq_true', Bool.and_eq_false_iff, Bool.or_eq_false_iff, Bool.not_eq_false', decide_eq_true_eq, decide_eq_false_iff_not, eqNil] at hg; omega) | (simp only [List.length_append, List.length_map, List.length_range, List.length_replicate, List.length_take, List.length_drop, List.length_cons, List.length_nil, List.length_set, List.length_reverse]; omega))
  apply hK; clear hK K
  -- region 4  law.go:249
  refine awp_rseq [5, 6, 7, 8, 9] (by rfl) fun K hK => ?_
  simp (decide := true) only [aOps_nil, ev, absV, absS, putD, Slots.put, Slots.keep, if_true, if_false, true_and, ↓ap_assign, pop_assign]
  repeat (with_reducible refine And.intro ?_ ?_; · first | trivial | omega | (intro hg; simp only [Bool.and_eq_true, Bool.or_eq_true, Bool.not_eq_true', Bool.and_eq_false_iff, Bool.or_eq_false_iff, Bool.not_eq_false', decide_eq_true_eq, decide_eq_false_iff_not, eqNil] at hg; omega) | (simp only [List.length_append, List.length_map, List.length_range, List.length_replicate, List.length_take, List.length_drop, List.length_cons, List.length_nil, List.length_set, List.length_reverse]; omega))
  apply hK; clear hK K
  -- region 5  law.go:250
  refine awp_rseq [5, 6, 7, 8, 9, 10] (by rfl) fun K hK => ?_
  simp (decide := true) only [aOps_nil, ev, absV, absS, putD, Slots.put, Slots.keep, if_true, if_false, true_and, ↓ap_assign, pop_assign]
  repeat (with_reducible refine And.intro ?_ ?_; · first | trivial | omega | (intro hg; simp only [Bool.and_eq_true, Bool.or_eq_true, Bool.not_eq_true', Bool.and_eq_false_iff, Bool.or_eq_false_iff, Bool.not_eq_false', decide_eq_true_eq, decide_eq_false_iff_not, eqNil] at hg; omega) | (simp only [List.length_append, List.length_map, List.length_range, List.length_replicate, List.length_take, List.length_drop, List.length_cons, List.length_nil, List.length_set, List.length_reverse]; omega))
  apply hK; clear hK K
  refine awp_seq ?_
  -- region 6  law.go:251
  refine awp_rseq [5, 6, 7, 8, 9, 10, 11] (by rfl) fun K hK => ?_
  simp (decide := true) only [aOps_nil, ev, absV, absS, putD, Slots.put, Slots.get, Slots.keep, if_true, if_false, true_and, ↓ap_move, pop_move, ↓ap_binOp, pop_binOp, pBinX_int, pI_sub, pI_add, ↓ap_assign, pop_assign]
  try simp (disch := omega) only [wrap_i64]
  repeat (with_reducible refine And.intro ?_ ?_; · first | trivial | omega | (intro hg; simp only [Bool.and_eq_true, Bool.or_eq_true, Bool.not_eq_true', Bool.and_eq_false_iff, Bool.or_eq_false_iff, Bool.not_eq_false', decide_eq_true_eq, decide_eq_false_iff_not, eqNil] at hg; omega) | (simp only [List.length_append, List.length_map, List.length_range, List.length_replicate, List.length_take, List.length_drop, List.length_cons, List.length_nil, List.length_set, List.length_reverse]; omega))
  apply hK; clear hK K
  refine awp_block ?_
  refine awp_loopG [5, 6, 7, 8, 9, 10, 11] (fun i : Nat => [(5, .ptr (.own k1q2) 0), (6, .int .i64 g), (7, .int .i64 s), (8, .bool true), (9, .bool true), (10, .str ((List.range i).map fun (j : Nat) => digitAt d (s - g + 1 + (j : Int)))), (11, .int .i64 (s - g + 1 + i))]) (fun i : Nat => ((h.set k0q0 ⟨[.bool neg, v, .int .u8 sc.toNat], 0⟩).set k0q1 ⟨[.int .u8 a.toNat, .int .u8 b.toNat], 0⟩).set k1q2 ⟨[.bool d.neg, .str d.dig, .int .i64 d.scale], 0⟩) (fun i : Nat => (i : Int) ≤ g) (fun i : Nat => 100 - i) 0 (by simp [Slots.keep]) (Sub.refl _) (by omega) ?_
  intro i hi
  refine awp_seq ?_
  -- region 7  law.go:251
  refine awp_rseq [5, 6, 7, 8, 9, 10, 11, 38] (by rfl) fun K hK => ?_
  simp (decide := true) only [aOps_nil, ev, putD, Slots.put, Slots.get, Slots.keep, if_true, if_false, true_and, ↓ap_move, pop_move, ↓ap_binOp, pop_binOp, pBinX_int, pI_leq]
  repeat (with_reducible refine And.intro ?_ ?_; · first | trivial | omega | (intro hg; simp only [Bool.and_eq_true, Bool.or_eq_true, Bool.not_eq_true', Bool.and_eq_false_iff, Bool.or_eq_false_iff, Bool.not_eq_false', decide_eq_true_eq, decide_eq_false_iff_not, eqNil] at hg; omega) | (simp only [List.length_append, List.length_map, List.length_range, List.length_replicate, List.length_take, List.length_drop, List.length_cons, List.length_nil, List.length_set, List.length_reverse]; omega))
  apply hK; clear hK K
  refine awp_cond (b := _) rfl (fun hb1 => ?_) (fun hb1 => ?_)
  · try simp only [decide_eq_true_eq] at hb1
    refine awp_skip ?_
    change Awp _ _ _ _ _ _ _
    refine awp_seq ?_
    refine awp_block ?_
    -- region 9  law.go:252
    refine awp_rseq [5, 6, 7, 8, 9, 10, 11, 12] (by rfl) fun K hK => ?_
    simp (decide := true) only [aOps_nil, ev, absV, absS, putD, Slots.put, Slots.get, Slots.keep, if_true, if_false, true_and, ↓ap_fieldAddr, pop_fieldAddr, fa28_1, ↓ap_loadL, apL_mk, pLoad_one ag9, ↓ap_len, pop_len, pLen_str Tryd.underlying9, ↓ap_binOp, pop_binOp, pBinX_int, pI_sub, fa28_2, pLoad_one ag3, ↓ap_move, pop_move, ↓ap_assign, pop_assign, rd_any, List.getD_cons_zero, List.getD_cons_succ, Nat.zero_add, lv_int, lv_str]
    try simp (disch := omega) only [wrap_i64]
    repeat (with_reducible refine And.intro ?_ ?_; · first | trivial | omega | (intro hg; simp only [Bool.and_eq_true, Bool.or_eq_true, Bool.not_eq_true', Bool.and_eq_false_iff, Bool.or_eq_false_iff, Bool.not_eq_false', decide_eq_true_eq, decide_eq_false_iff_not, eqNil] at hg; omega) | (simp only [List.length_append, List.length_map, List.length_range, List.length_replicate, List.length_take, List.length_drop, List.length_cons, List.length_nil, List.length_set, List.length_reverse]; omega))
    apply hK; clear hK K
    -- region 10  law.go:253
    refine awp_rseq [5, 6, 7, 8, 9, 10, 11, 12, 13] (by rfl) fun K hK => ?_
    simp (decide := true) only [aOps_nil, ev, absV, absS, putD, Slots.put, Slots.keep, if_true, if_false, true_and, ↓ap_assign, pop_assign]
    repeat (with_reducible refine And.intro ?_ ?_; · first | trivial | omega | (intro hg; simp only [Bool.and_eq_true, Bool.or_eq_true, Bool.not_eq_true', Bool.and_eq_false_iff, Bool.or_eq_false_iff, Bool.not_eq_false', decide_eq_true_eq, decide_eq_false_iff_not, eqNil] at hg; omega) | (simp only [List.length_append, List.length_map, List.length_range, List.length_replicate, List.length_take, List.length_drop, List.length_cons, List.length_nil, List.length_set, List.length_reverse]; omega))
    apply hK; clear hK K
    refine awp_seq ?_
    -- region 11  law.go:254
    refine awp_rseq [5, 6, 7, 8, 9, 10, 11, 12, 13, 58] (by rfl) fun K hK => ?_
    simp (decide := true) only [aOps_nil, ev, absV, absS, putD, Slots.put, Slots.get, Slots.keep, if_true, if_false, true_and, ↓ap_move, pop_move, ↓ap_binOp, pop_binOp, pBinX_int, pI_geq, ↓ag_move, agP, agQ_some, nthDst, gKnown_bool, guardB_bool_true, implies_true, ↓ag_fieldAddr, pop_fieldAddr, fa28_1, ↓ag_loadL, agQL_some, agL_mk, agL_ld1, pLoad_one ag9, ↓ag_len, pop_len, pLen_str Tryd.underlying9, cv_len, cp_len, ↓ag_binOp, cv_binl, cv_binr, cp_binl, cp_binr, pI_lss, ↓ap_pick, pop_pick, pPick_bool, pickV_cond_l, pickV_and, rd_any, List.getD_cons_zero, List.getD_cons_succ, Nat.zero_add, lv_str]
    repeat (with_reducible refine And.intro ?_ ?_; · first | trivial | omega | (intro hg; simp only [Bool.and_eq_true, Bool.or_eq_true, Bool.not_eq_true', Bool.and_eq_false_iff, Bool.or_eq_false_iff, Bool.not_eq_false', decide_eq_true_eq, decide_eq_false_iff_not, eqNil] at hg; omega) | (simp only [List.length_append, List.length_map, List.length_range, List.length_replicate, List.length_take, List.length_drop, List.length_cons, List.length_nil, List.length_set, List.length_reverse]; omega))
    apply hK; clear hK K
    refine awp_cond (b := _) rfl (fun hb2 => ?_) (fun hb2 => ?_)
    · try simp only [decide_eq_true_eq, Bool.and_eq_true] at hb2
      -- region 12  law.go:255
      refine awp_r [5, 6, 7, 8, 9, 10, 11, 13] (by rfl) ?_
      simp (decide := true) only [ev, absV, absS, putD, Slots.put, Slots.get, if_true, if_false, true_and, ↓ap_fieldAddr, pop_fieldAddr, fa28_1, ↓ap_loadL, apL_mk, pLoad_one ag9, ↓ap_move, pop_move, ↓ap_binOp, pop_binOp, pBinX_int, pI_add, rd_any, List.getD_cons_zero, List.getD_cons_succ, Nat.zero_add, lv_str]
      try simp (disch := omega) only [wrap_i64]
      try simp (decide := true) only [aOps_nil, ev, putD, Slots.put, Slots.get, Slots.keep, if_true, if_false, true_and, ↓ap_slice, pop_slice, evO, pSliceS_ii Tryd.underlying9, pSliceS, bndA_int, ↓ap_assign, pop_assign]
      repeat (with_reducible refine And.intro ?_ ?_; · first | trivial | omega | (intro hg; simp only [Bool.and_eq_true, Bool.or_eq_true, Bool.not_eq_true', Bool.and_eq_false_iff, Bool.or_eq_false_iff, Bool.not_eq_false', decide_eq_true_eq, decide_eq_false_iff_not, eqNil] at hg; omega) | (simp only [List.length_append, List.length_map, List.length_range, List.length_replicate, List.length_take, List.length_drop, List.length_cons, List.length_nil, List.length_set, List.length_reverse]; omega))
      change Awp _ _ _ _ _ _ _
      -- region 13  law.go:257
      refine awp_r [5, 6, 7, 8, 9, 10, 11] (by rfl) ?_
      simp (decide := true) only [aOps_nil, ev, putD, Slots.put, Slots.get, Slots.keep, if_true, if_false, true_and, ↓ap_move, pop_move, ↓ap_binOp, pop_binOp, pBinX_str, pS_add, ↓ap_assign, pop_assign]
      repeat (with_reducible refine And.intro ?_ ?_; · first | trivial | omega | (intro hg; simp only [Bool.and_eq_true, Bool.or_eq_true, Bool.not_eq_true', Bool.and_eq_false_iff, Bool.or_eq_false_iff, Bool.not_eq_false', decide_eq_true_eq, decide_eq_false_iff_not, eqNil] at hg; omega) | (simp only [List.length_map, List.length_range, List.length_take, List.length_drop]; omega))
      change Awp _ _ _ _ _ _ _
      -- region 8  law.go:251
      refine awp_r [5, 6, 7, 8, 9, 10, 11] (by rfl) ?_
      simp (decide := true) only [aOps_nil, ev, absV, absS, putD, Slots.put, Slots.get, Slots.keep, if_true, if_false, true_and, ↓ap_move, pop_move, ↓ap_binOp, pop_binOp, pBinX_int, pI_add, ↓ap_assign, pop_assign]
      try simp (disch := omega) only [wrap_i64]
      repeat (with_reducible refine And.intro ?_ ?_; · first | trivial | omega | (intro hg; simp only [Bool.and_eq_true, Bool.or_eq_true, Bool.not_eq_true', Bool.and_eq_false_iff, Bool.or_eq_false_iff, Bool.not_eq_false', decide_eq_true_eq, decide_eq_false_iff_not, eqNil] at hg; omega) | (simp only [List.length_append, List.length_map, List.length_range, List.length_replicate, List.length_take, List.length_drop, List.length_cons, List.length_nil, List.length_set, List.length_reverse]; omega))
      try simp only [thenA_normal]
      refine ⟨i + 1, ?_, Sub.refl _, by omega, by omega⟩
      rw [List.range_succ, List.map_append, List.map_singleton, digitAt, show ((i + 1 : Nat) : Int) = (i : Int) + 1 by omega, ← Int.add_assoc]
      first
      | rw [if_pos hb2, drop_cons d.dig _ (show ((d.dig.length : Int) - 1 - (d.scale - (s - g + 1 + (i : Int)))).toNat < d.dig.length by omega), show ((d.dig.length : Int) - 1 - (d.scale - (s - g + 1 + (i : Int))) + 1).toNat - ((d.dig.length : Int) - 1 - (d.scale - (s - g + 1 + (i : Int)))).toNat = 1 by omega]
      | rw [if_neg (by omega)]
      rfl
    · try simp only [decide_eq_false_iff_not, Bool.and_eq_false_iff] at hb2
      refine awp_skip ?_
      change Awp _ _ _ _ _ _ _
      -- region 13  law.go:257
      refine awp_r [5, 6, 7, 8, 9, 10, 11] (by rfl) ?_
      simp (decide := true) only [aOps_nil, ev, putD, Slots.put, Slots.get, Slots.keep, if_true, if_false, true_and, ↓ap_move, pop_move, ↓ap_binOp, pop_binOp, pBinX_str, pS_add, ↓ap_assign, pop_assign]
      repeat (with_reducible refine And.intro ?_ ?_; · first | trivial | omega | (intro hg; simp only [Bool.and_eq_true, Bool.or_eq_true, Bool.not_eq_true', Bool.and_eq_false_iff, Bool.or_eq_false_iff, Bool.not_eq_false', decide_eq_true_eq, decide_eq_false_iff_not, eqNil] at hg; omega) | (simp only [List.length_map, List.length_range, List.length_cons, List.length_nil]; omega))
      change Awp _ _ _ _ _ _ _
      -- region 8  law.go:251
      refine awp_r [5, 6, 7, 8, 9, 10, 11] (by rfl) ?_
      simp (decide := true) only [aOps_nil, ev, absV, absS, putD, Slots.put, Slots.get, Slots.keep, if_true, if_false, true_and, ↓ap_move, pop_move, ↓ap_binOp, pop_binOp, pBinX_int, pI_add, ↓ap_assign, pop_assign]
      try simp (disch := omega) only [wrap_i64]
      repeat (with_reducible refine And.intro ?_ ?_; · first | trivial | omega | (intro hg; simp only [Bool.and_eq_true, Bool.or_eq_true, Bool.not_eq_true', Bool.and_eq_false_iff, Bool.or_eq_false_iff, Bool.not_eq_false', decide_eq_true_eq, decide_eq_false_iff_not, eqNil] at hg; omega) | (simp only [List.length_append, List.length_map, List.length_range, List.length_replicate, List.length_take, List.length_drop, List.length_cons, List.length_nil, List.length_set, List.length_reverse]; omega))
      try simp only [thenA_normal]
      refine ⟨i + 1, ?_, Sub.refl _, by omega, by omega⟩
      rw [List.range_succ, List.map_append, List.map_singleton, digitAt, show ((i + 1 : Nat) : Int) = (i : Int) + 1 by omega, ← Int.add_assoc]
      first
      | rw [if_pos hb2, drop_cons d.dig _ (show ((d.dig.length : Int) - 1 - (d.scale - (s - g + 1 + (i : Int)))).toNat < d.dig.length by omega), show ((d.dig.length : Int) - 1 - (d.scale - (s - g + 1 + (i : Int))) + 1).toNat - ((d.dig.length : Int) - 1 - (d.scale - (s - g + 1 + (i : Int)))).toNat = 1 by omega]
      | rw [if_neg (by omega)]
      rfl
  · try simp only [decide_eq_false_iff_not] at hb1
    have hig : (i : Int) = g := by omega
    have hpl : (List.range i).map (fun (j : Nat) => digitAt d (s - g + 1 + (j : Int))) = placesL d g s := by
      unfold placesL
      rw [← hig]
      simp
    rw [hpl]
    refine awp_exit ?_
    change Awp _ _ _ _ _ _ _
    refine awp_seq ?_
    -- region 14  law.go:259
    refine awp_rseq [5, 6, 7, 8, 9, 10, 14] (by rfl) fun K hK => ?_
    simp (decide := true) only [aOps_nil, ev, absV, absS, putD, Slots.put, Slots.keep, if_true, if_false, true_and, ↓ap_assign, pop_assign]
    repeat (with_reducible refine And.intro ?_ ?_; · first | trivial | omega | (intro hg; simp only [Bool.and_eq_true, Bool.or_eq_true, Bool.not_eq_true', Bool.and_eq_false_iff, Bool.or_eq_false_iff, Bool.not_eq_false', decide_eq_true_eq, decide_eq_false_iff_not, eqNil] at hg; omega) | (simp only [List.length_append, List.length_map, List.length_range, List.length_replicate, List.length_take, List.length_drop, List.length_cons, List.length_nil, List.length_set, List.length_reverse]; omega))
    apply hK; clear hK K
    refine awp_block ?_
    refine awp_loopG [5, 6, 7, 8, 9, 10, 14] (fun i : Nat => [(5, .ptr (.own k1q2) 0), (6, .int .i64 g), (7, .int .i64 s), (8, .bool (insB d s i)), (9, .bool (smlB d g s i)), (10, .str (placesL d g s)), (14, .int .i64 i)]) (fun i : Nat => ((h.set k0q0 ⟨[.bool neg, v, .int .u8 sc.toNat], 0⟩).set k0q1 ⟨[.int .u8 a.toNat, .int .u8 b.toNat], 0⟩).set k1q2 ⟨[.bool d.neg, .str d.dig, .int .i64 d.scale], 0⟩) (fun i : Nat => i ≤ d.dig.length) (fun i : Nat => d.dig.length - i) 0 (by rfl) (Sub.refl _) (by omega) ?_
    intro i hi
    refine awp_seq ?_
    -- region 15  law.go:259
    refine awp_rseq [5, 6, 7, 8, 9, 10, 14, 72] (by rfl) fun K hK => ?_
    simp (decide := true) only [aOps_nil, ev, putD, Slots.put, Slots.get, Slots.keep, if_true, if_false, true_and, ↓ap_move, pop_move, ↓ap_fieldAddr, pop_fieldAddr, fa28_1, ↓ap_loadL, apL_mk, pLoad_one ag9, ↓ap_len, pop_len, pLen_str Tryd.underlying9, ↓ap_binOp, pop_binOp, pBinX_int, pI_lss, rd_any, List.getD_cons_zero, List.getD_cons_succ, Nat.zero_add, lv_str]
    repeat (with_reducible refine And.intro ?_ ?_; · first | trivial | omega | (intro hg; simp only [Bool.and_eq_true, Bool.or_eq_true, Bool.not_eq_true', Bool.and_eq_false_iff, Bool.or_eq_false_iff, Bool.not_eq_false', decide_eq_true_eq, decide_eq_false_iff_not, eqNil] at hg; omega) | (simp only [List.length_append, List.length_map, List.length_range, List.length_replicate, List.length_take, List.length_drop, List.length_cons, List.length_nil, List.length_set, List.length_reverse]; omega))
    apply hK; clear hK K
    refine awp_cond (b := _) rfl (fun hb3 => ?_) (fun hb3 => ?_)
    · try simp only [decide_eq_true_eq] at hb3
      refine awp_skip ?_
      change Awp _ _ _ _ _ _ _
      refine awp_seq ?_
      refine awp_block ?_
      -- region 17  law.go:260
      refine awp_rseq [5, 6, 7, 8, 9, 10, 14, 15] (by rfl) fun K hK => ?_
      simp (decide := true) only [aOps_nil, ev, absV, absS, putD, Slots.put, Slots.get, Slots.keep, if_true, if_false, true_and, ↓ap_fieldAddr, pop_fieldAddr, fa28_2, ↓ap_loadL, apL_mk, pLoad_one ag3, fa28_1, pLoad_one ag9, ↓ap_len, pop_len, pLen_str Tryd.underlying9, ↓ap_binOp, pop_binOp, pBinX_int, pI_sub, ↓ap_move, pop_move, ↓ap_assign, pop_assign, rd_any, List.getD_cons_zero, List.getD_cons_succ, Nat.zero_add, lv_int, lv_str]
      try simp (disch := omega) only [wrap_i64]
      repeat (with_reducible refine And.intro ?_ ?_; · first | trivial | omega | (intro hg; simp only [Bool.and_eq_true, Bool.or_eq_true, Bool.not_eq_true', Bool.and_eq_false_iff, Bool.or_eq_false_iff, Bool.not_eq_false', decide_eq_true_eq, decide_eq_false_iff_not, eqNil] at hg; omega) | (simp only [List.length_append, List.length_map, List.length_range, List.length_replicate, List.length_take, List.length_drop, List.length_cons, List.length_nil, List.length_set, List.length_reverse]; omega))
      apply hK; clear hK K
      -- region 18  law.go:261
      refine awp_rseq [5, 6, 7, 8, 9, 10, 14, 15, 88] (by rfl) fun K hK => ?_
      simp (decide := true) only [aOps_nil, ev, absV, absS, putD, Slots.put, Slots.get, Slots.keep, if_true, if_false, true_and, ↓ap_fieldAddr, pop_fieldAddr, fa28_1, ↓ap_loadL, apL_mk, pLoad_one ag9, ↓ap_move, pop_move, ↓ap_index, pop_index, pIndex_str Tryd.underlying9, ↓ap_binOp, pop_binOp, pBinX_int, pI_neq, rd_any, List.getD_cons_zero, List.getD_cons_succ, Nat.zero_add, lv_str]
      repeat (with_reducible refine And.intro ?_ ?_; · first | trivial | omega | (intro hg; simp only [Bool.and_eq_true, Bool.or_eq_true, Bool.not_eq_true', Bool.and_eq_false_iff, Bool.or_eq_false_iff, Bool.not_eq_false', decide_eq_true_eq, decide_eq_false_iff_not, eqNil] at hg; omega) | (simp only [List.length_append, List.length_map, List.length_range, List.length_replicate, List.length_take, List.length_drop, List.length_cons, List.length_nil, List.length_set, List.length_reverse]; omega))
      apply hK; clear hK K
      refine awp_cond (b := _) rfl (fun hb4 => ?_) (fun hb4 => ?_)
      · try simp only [decide_eq_false_iff_not, Bool.not_eq_true'] at hb4
        -- region 19  law.go:262
        refine awp_rseq [5, 6, 7, 8, 9, 10, 14, 15] (by rfl) fun K hK => ?_
        simp (decide := true) only [aOps_nil, ev, absV, absS, putD, Slots.put, Slots.get, Slots.keep, if_true, if_false, true_and, ↓ap_move, pop_move, ↓ag_move, agP, agQ_some, nthDst, gKnown_bool, guardB_bool_true, implies_true, ↓ag_binOp, pop_binOp, cv_binl, cv_binr, cp_binl, cp_binr, pBinX_int, pI_leq, ↓ap_pick, pop_pick, pPick_bool, pickV_cond_l, pickV_and, ↓ap_assign, pop_assign]
        repeat (with_reducible refine And.intro ?_ ?_; · first | trivial | omega | (intro hg; simp only [Bool.and_eq_true, Bool.or_eq_true, Bool.not_eq_true', Bool.and_eq_false_iff, Bool.or_eq_false_iff, Bool.not_eq_false', decide_eq_true_eq, decide_eq_false_iff_not, eqNil] at hg; omega) | (simp only [List.length_append, List.length_map, List.length_range, List.length_replicate, List.length_take, List.length_drop, List.length_cons, List.length_nil, List.length_set, List.length_reverse]; omega))
        apply hK; clear hK K
        -- region 20  law.go:263
        refine awp_r [5, 6, 7, 8, 9, 10, 14] (by rfl) ?_
        simp (decide := true) only [aOps_nil, ev, absV, absS, putD, Slots.put, Slots.get, Slots.keep, if_true, if_false, true_and, ↓ap_move, pop_move, ↓ag_move, agP, agQ_some, nthDst, gKnown_bool, guardB_bool_true, implies_true, ↓ag_binOp, pop_binOp, cv_binl, cv_binr, cp_binl, cp_binr, pBinX_int, pI_sub, pI_gtr, ↓ap_pick, pop_pick, pPick_bool, pickV_cond_l, pickV_and, ↓ap_assign, pop_assign]
        try simp (disch := omega) only [wrap_i64]
        repeat (with_reducible refine And.intro ?_ ?_; · first | trivial | omega | (intro hg; simp only [Bool.and_eq_true, Bool.or_eq_true, Bool.not_eq_true', Bool.and_eq_false_iff, Bool.or_eq_false_iff, Bool.not_eq_false', decide_eq_true_eq, decide_eq_false_iff_not, eqNil] at hg; omega) | (simp only [List.length_append, List.length_map, List.length_range, List.length_replicate, List.length_take, List.length_drop, List.length_cons, List.length_nil, List.length_set, List.length_reverse]; omega))
        change Awp _ _ _ _ _ _ _
        -- region 16  law.go:259
        refine awp_r [5, 6, 7, 8, 9, 10, 14] (by rfl) ?_
        simp (decide := true) only [aOps_nil, ev, absV, absS, putD, Slots.put, Slots.get, Slots.keep, if_true, if_false, true_and, ↓ap_move, pop_move, ↓ap_binOp, pop_binOp, pBinX_int, pI_add, ↓ap_assign, pop_assign]
        try simp (disch := omega) only [wrap_i64]
        repeat (with_reducible refine And.intro ?_ ?_; · first | trivial | omega | (intro hg; simp only [Bool.and_eq_true, Bool.or_eq_true, Bool.not_eq_true', Bool.and_eq_false_iff, Bool.or_eq_false_iff, Bool.not_eq_false', decide_eq_true_eq, decide_eq_false_iff_not, eqNil] at hg; omega) | (simp only [List.length_append, List.length_map, List.length_range, List.length_replicate, List.length_take, List.length_drop, List.length_cons, List.length_nil, List.length_set, List.length_reverse]; omega))
        try simp only [thenA_normal]
        refine ⟨i + 1, ?_, Sub.refl _, by omega, by omega⟩
        try simp only [Int.toNat_natCast] at hb4
        rw [insB_succ, smlB_succ, show ((i + 1 : Nat) : Int) = (i : Int) + 1 by omega]
        first
        | rw [decide_eq_true (show (d.dig.getD i 0).toNat = 48 by omega), Bool.true_or, Bool.true_or, Bool.and_true, Bool.and_true]
        | rw [decide_eq_false (show ¬(d.dig.getD i 0).toNat = 48 by omega), Bool.false_or, Bool.false_or]
        rfl
      · try simp only [decide_eq_true_eq, Bool.not_eq_false'] at hb4
        refine awp_skip ?_
        change Awp _ _ _ _ _ _ _
        -- region 16  law.go:259
        refine awp_r [5, 6, 7, 8, 9, 10, 14] (by rfl) ?_
        simp (decide := true) only [aOps_nil, ev, absV, absS, putD, Slots.put, Slots.get, Slots.keep, if_true, if_false, true_and, ↓ap_move, pop_move, ↓ap_binOp, pop_binOp, pBinX_int, pI_add, ↓ap_assign, pop_assign]
        try simp (disch := omega) only [wrap_i64]
        repeat (with_reducible refine And.intro ?_ ?_; · first | trivial | omega | (intro hg; simp only [Bool.and_eq_true, Bool.or_eq_true, Bool.not_eq_true', Bool.and_eq_false_iff, Bool.or_eq_false_iff, Bool.not_eq_false', decide_eq_true_eq, decide_eq_false_iff_not, eqNil] at hg; omega) | (simp only [List.length_append, List.length_map, List.length_range, List.length_replicate, List.length_take, List.length_drop, List.length_cons, List.length_nil, List.length_set, List.length_reverse]; omega))
        try simp only [thenA_normal]
        refine ⟨i + 1, ?_, Sub.refl _, by omega, by omega⟩
        try simp only [Int.toNat_natCast] at hb4
        rw [insB_succ, smlB_succ, show ((i + 1 : Nat) : Int) = (i : Int) + 1 by omega]
        first
        | rw [decide_eq_true (show (d.dig.getD i 0).toNat = 48 by omega), Bool.true_or, Bool.true_or, Bool.and_true, Bool.and_true]
        | rw [decide_eq_false (show ¬(d.dig.getD i 0).toNat = 48 by omega), Bool.false_or, Bool.false_or]
        rfl
    · try simp only [decide_eq_false_iff_not] at hb3
      have hil : i = d.dig.length := by omega
      rw [hil]
      obtain ⟨I, hI⟩ : ∃ I, I = insB d s d.dig.length := ⟨_, rfl⟩
      obtain ⟨S, hS⟩ : ∃ S, S = smlB d g s d.dig.length := ⟨_, rfl⟩
      rw [← hI, ← hS] at hf hdg
      rw [← hI] at hlw
      rw [← hI, ← hS]
      obtain ⟨lo, f, hlo⟩ : ∃ lo f, lowE d g s = (lo, f) := ⟨_, _, rfl⟩
      obtain ⟨t, e, hte⟩ : ∃ t e, digitsE d g s = (t, e) := ⟨_, _, rfl⟩
      refine awp_exit ?_
      change Awp _ _ _ _ _ _ _
      -- region 21  law.go:266
      refine awp_rseq [5, 6, 7, 8, 9, 10, 16, 17] (by rfl) fun K hK => ?_
      simp (decide := true) only [ev, putD, Slots.put, Slots.get, if_true, if_false, true_and, ↓ap_loadL, apL_mk, pLoad_agg ag28 sz28, ↓ap_move, pop_move, rd_any, cellsAt, List.getD_cons_zero, List.getD_cons_succ, Nat.zero_add, Nat.reduceAdd, lv_bool, lv_int, lv_str, allLive, Bool.and_true]
      repeat (with_reducible refine And.intro ?_ ?_; · first | trivial | omega | (intro hg; simp only [Bool.and_eq_true, Bool.or_eq_true, Bool.not_eq_true', Bool.and_eq_false_iff, Bool.or_eq_false_iff, Bool.not_eq_false', decide_eq_true_eq, decide_eq_false_iff_not, eqNil] at hg; omega) | (simp only [List.length_append, List.length_map, List.length_range, List.length_replicate, List.length_take, List.length_drop, List.length_cons, List.length_nil, List.length_set, List.length_reverse]; omega))
      refine aOps_callV (V := .tuple [.bool (I && S), .int .i64 0]) (by rfl) (by rfl) ((c_Fits w₀ _ d g s hdl (by omega) (by omega)).val (by rw [hf])) ?_
      simp (decide := true) only [aOps_nil, ev, putD, Slots.put, Slots.get, Slots.keep, if_true, if_false, true_and, ↓ap_move, pop_move, ↓ap_extract, pop_extract, pExt_tuple, List.length_cons, List.length_nil, List.getD_cons_zero, List.getD_cons_succ, ↓ap_assign, pop_assign, List.getD_cons_zero, List.getD_cons_succ, Nat.zero_add, Nat.reduceAdd]
      repeat (with_reducible refine And.intro ?_ ?_; · first | trivial | omega | (intro hg; simp only [Bool.and_eq_true, Bool.or_eq_true, Bool.not_eq_true', Bool.and_eq_false_iff, Bool.or_eq_false_iff, Bool.not_eq_false', decide_eq_true_eq, decide_eq_false_iff_not, eqNil] at hg; omega) | (simp only [List.length_append, List.length_map, List.length_range, List.length_replicate, List.length_take, List.length_drop, List.length_cons, List.length_nil, List.length_set, List.length_reverse]; omega))
      apply hK; clear hK K
      -- region 22  law.go:267
      refine awp_rseq [5, 6, 7, 8, 9, 10, 16, 17, 18, 19] (by rfl) fun K hK => ?_
      simp (decide := true) only [ev, putD, Slots.put, Slots.get, if_true, if_false, true_and, ↓ap_loadL, apL_mk, pLoad_agg ag28 sz28, ↓ap_move, pop_move, rd_any, cellsAt, List.getD_cons_zero, List.getD_cons_succ, Nat.zero_add, Nat.reduceAdd, lv_bool, lv_int, lv_str, allLive, Bool.and_true]
      repeat (with_reducible refine And.intro ?_ ?_; · first | trivial | omega | (intro hg; simp only [Bool.and_eq_true, Bool.or_eq_true, Bool.not_eq_true', Bool.and_eq_false_iff, Bool.or_eq_false_iff, Bool.not_eq_false', decide_eq_true_eq, decide_eq_false_iff_not, eqNil] at hg; omega) | (simp only [List.length_append, List.length_map, List.length_range, List.length_replicate, List.length_take, List.length_drop, List.length_cons, List.length_nil, List.length_set, List.length_reverse]; omega))
      refine aOps_callV (V := .tuple [decA lo, .int .i64 f]) (by rfl) (by rfl) ((c_Low w₀ _ d g s hdl (by omega) (by omega)).val (by rw [hlo])) ?_
      simp (decide := true) only [ev, putD, Slots.put, Slots.get, if_true, if_false, true_and, ↓ap_move, pop_move, ↓ap_extract, pop_extract, pExt_tuple, List.length_cons, List.length_nil, List.getD_cons_zero, List.getD_cons_succ, List.getD_cons_zero, List.getD_cons_succ, Nat.zero_add, Nat.reduceAdd, decA]
      repeat (with_reducible refine And.intro ?_ ?_; · first | trivial | omega | (intro hg; simp only [Bool.and_eq_true, Bool.or_eq_true, Bool.not_eq_true', Bool.and_eq_false_iff, Bool.or_eq_false_iff, Bool.not_eq_false', decide_eq_true_eq, decide_eq_false_iff_not, eqNil] at hg; omega) | (simp only [List.length_append, List.length_map, List.length_range, List.length_replicate, List.length_take, List.length_drop, List.length_cons, List.length_nil, List.length_set, List.length_reverse]; omega))
      refine aOps_alloc ze28 (cs := [.bool false, .str [], .int .i64 0]) (by rfl) fun k22q7 hk22q7 => ?_
      have ne_22q7_0q0 : k22q7 ≠ k0q0 := by simp only [AHeap.set_none] at hk22q7; simp only [hk22q7, ne_eq, not_false_eq_true]
      have ne_22q7_0q1 : k22q7 ≠ k0q1 := by simp only [AHeap.set_none] at hk22q7; simp only [hk22q7, ne_eq, not_false_eq_true]
      have ne_22q7_1q2 : k22q7 ≠ k1q2 := by simp only [AHeap.set_none] at hk22q7; simp only [hk22q7, ne_eq, not_false_eq_true]
      try have hf_22q7 : h k22q7 = none := by first | assumption | (simp only [AHeap.set_none] at hk22q7; simp only [hk22q7])
      refine aOps_store (by rfl) (by rfl) (by repeat (first | exact AHeap.set_same _ _ _ | assumption | refine (AHeap.set_ne _ _ (by first | assumption | exact Ne.symm (by assumption))).trans ?_)) sz28 (by rfl) (by rfl) (by first | exact Nat.le_refl _ | decide | (simp; done) | (simp; omega)) (Nat.zero_le _) (by rfl) ?_
      simp only [AHeap.set_set, AVal.cells]
      simp (decide := true) only [aOps_nil, ev, putD, Slots.put, Slots.get, Slots.keep, if_true, if_false, true_and, ↓ap_assign, pop_assign, setAt, List.set_cons_zero, List.set_cons_succ, Nat.zero_add, Nat.reduceAdd]
      repeat (with_reducible refine And.intro ?_ ?_; · first | trivial | omega | (intro hg; simp only [Bool.and_eq_true, Bool.or_eq_true, Bool.not_eq_true', Bool.and_eq_false_iff, Bool.or_eq_false_iff, Bool.not_eq_false', decide_eq_true_eq, decide_eq_false_iff_not, eqNil] at hg; omega) | (simp only [List.length_append, List.length_map, List.length_range, List.length_replicate, List.length_take, List.length_drop, List.length_cons, List.length_nil, List.length_set, List.length_reverse]; omega))
      apply hK; clear hK K
      -- region 23  law.go:268
      refine awp_rseq [5, 7, 8, 9, 10, 16, 17, 18, 19, 20, 21] (by rfl) fun K hK => ?_
      simp (decide := true) only [ev, putD, Slots.put, Slots.get, if_true, if_false, true_and, ↓ap_loadL, apL_mk, pLoad_agg ag28 sz28, ↓ap_move, pop_move, rd_ne', ne_eq, not_false_eq_true, ne_22q7_1q2.symm, rd_any, cellsAt, List.getD_cons_zero, List.getD_cons_succ, Nat.zero_add, Nat.reduceAdd, lv_bool, lv_int, lv_str, allLive, Bool.and_true]
      repeat (with_reducible refine And.intro ?_ ?_; · first | trivial | omega | (intro hg; simp only [Bool.and_eq_true, Bool.or_eq_true, Bool.not_eq_true', Bool.and_eq_false_iff, Bool.or_eq_false_iff, Bool.not_eq_false', decide_eq_true_eq, decide_eq_false_iff_not, eqNil] at hg; omega) | (simp only [List.length_append, List.length_map, List.length_range, List.length_replicate, List.length_take, List.length_drop, List.length_cons, List.length_nil, List.length_set, List.length_reverse]; omega))
      refine aOps_callV (V := .tuple [.str t, .int .i64 e]) (by rfl) (by rfl) ((c_Digits w₀ _ d g s hdl (by omega) (by omega)).val (by rw [hte])) ?_
      simp (decide := true) only [aOps_nil, ev, putD, Slots.put, Slots.get, Slots.keep, if_true, if_false, true_and, ↓ap_move, pop_move, ↓ap_extract, pop_extract, pExt_tuple, List.length_cons, List.length_nil, List.getD_cons_zero, List.getD_cons_succ, ↓ap_assign, pop_assign, List.getD_cons_zero, List.getD_cons_succ, Nat.zero_add, Nat.reduceAdd]
      repeat (with_reducible refine And.intro ?_ ?_; · first | trivial | omega | (intro hg; simp only [Bool.and_eq_true, Bool.or_eq_true, Bool.not_eq_true', Bool.and_eq_false_iff, Bool.or_eq_false_iff, Bool.not_eq_false', decide_eq_true_eq, decide_eq_false_iff_not, eqNil] at hg; omega) | (simp only [List.length_append, List.length_map, List.length_range, List.length_replicate, List.length_take, List.length_drop, List.length_cons, List.length_nil, List.length_set, List.length_reverse]; omega))
      apply hK; clear hK K
      refine awp_seq ?_
      -- region 24  law.go:269
      refine awp_rseq [5, 7, 8, 9, 10, 16, 18, 19, 20, 21, 133] (by rfl) fun K hK => ?_
      simp (decide := true) only [aOps_nil, ev, absV, absS, putD, Slots.put, Slots.get, Slots.keep, if_true, if_false, true_and, ↓ap_move, pop_move, ↓ap_binOp, pop_binOp, pBinX_int, pI_neq, ↓ag_move, agP, agQ_some, nthDst, gKnown_bool, guardB_bool_true, guardB_bool_false, implies_true, decide_true, Bool.not_false, Bool.not_true, condV_true, Bool.false_or, ↓ag_pick, pop_pick, pPick_bool, pickV_cond_l, pickV_and, pickV_or, ↓ag_binOp, pBinX_bne, Tryd.underlying4, ↓ap_pick]
      repeat (with_reducible refine And.intro ?_ ?_; · first | trivial | omega | (intro hg; simp only [Bool.and_eq_true, Bool.or_eq_true, Bool.not_eq_true', Bool.and_eq_false_iff, Bool.or_eq_false_iff, Bool.not_eq_false', decide_eq_true_eq, decide_eq_false_iff_not, eqNil] at hg; omega) | (simp only [List.length_append, List.length_map, List.length_range, List.length_replicate, List.length_take, List.length_drop, List.length_cons, List.length_nil, List.length_set, List.length_reverse]; omega))
      apply hK; clear hK K
      refine awp_cond (b := _) rfl (fun hb5 => ?_) (fun hb5 => ?_)
      · try simp only [Bool.not_eq_true'] at hb5
        -- region 25  law.go:270
        refine awp_rseq [4] (by rfl) fun K hK => ?_
        simp (decide := true) only [aOps_nil, ev, absV, absS, putD, Slots.put, Slots.keep, if_true, if_false, true_and, ↓ap_assign, pop_assign]
        repeat (with_reducible refine And.intro ?_ ?_; · first | trivial | omega | (intro hg; simp only [Bool.and_eq_true, Bool.or_eq_true, Bool.not_eq_true', Bool.and_eq_false_iff, Bool.or_eq_false_iff, Bool.not_eq_false', decide_eq_true_eq, decide_eq_false_iff_not, eqNil] at hg; omega) | (simp only [List.length_append, List.length_map, List.length_range, List.length_replicate, List.length_take, List.length_drop, List.length_cons, List.length_nil, List.length_set, List.length_reverse]; omega))
        apply hK; clear hK K
        refine awp_ret ?_
        try simp only [thenA_ret]
        refine retA_ret h (by repeat (first | exact Sub.refl _ | refine Sub.trans_set ?_ (by assumption))) (resPre_tmp (resPre_nil)) ?_
        simp (decide := true) only [Slots.get, if_true, and_true, resOf_one]
        simp at hb5
      · try simp only [Bool.not_eq_false'] at hb5
        rw [hlo] at hlw
        rw [hte] at hdg
        refine awp_skip ?_
        change Awp _ _ _ _ _ _ _
        refine awp_seq ?_
        -- region 26  law.go:272
        refine awp_rseq [5, 7, 9, 10, 16, 18, 19, 20, 21, 135] (by rfl) fun K hK => ?_
        simp (decide := true) only [aOps_nil, ev, putD, Slots.put, Slots.get, Slots.keep, if_true, if_false, true_and, ↓ap_move, pop_move, ↓ap_unOp, pop_unOp, pU_not]
        try simp (disch := omega) only [Int.tmod_eq_emod_of_nonneg, Int.tdiv_eq_ediv_of_nonneg, wrap_i64, wrap_u8]
        repeat (with_reducible refine And.intro ?_ ?_; · first | trivial | omega | (intro hg; simp only [Bool.and_eq_true, Bool.or_eq_true, Bool.not_eq_true', Bool.and_eq_false_iff, Bool.or_eq_false_iff, Bool.not_eq_false', decide_eq_true_eq, decide_eq_false_iff_not, eqNil] at hg; omega) | (simp only [List.length_append, List.length_map, List.length_range, List.length_replicate, List.length_take, List.length_drop, List.length_cons, List.length_nil, List.length_set, List.length_reverse]; omega))
        apply hK; clear hK K
        refine awp_cond (b := _) rfl (fun hb6 => ?_) (fun hb6 => ?_)
        · try simp only [Bool.not_eq_true'] at hb6
          have hI' : I = false := by simpa using hb6
          rw [hI', if_neg (by decide)] at hlw
          rw [hI', Bool.false_and, if_neg (by decide)] at hdg
          obtain ⟨q1, q2⟩ := Prod.mk.inj hlw
          obtain ⟨q3, q4⟩ := Prod.mk.inj hdg
          -- region 27  law.go:273
          refine awp_rseq [4] (by rfl) fun K hK => ?_
          simp (decide := true) only [ev, absV, absS, putD, Slots.put, Slots.get, if_true, if_false, true_and, ↓ap_move, pop_move, ↓ap_binOp, pop_binOp, pBinX_int, pI_eql, ↓ag_loadL, agQL_some, agL_mk, agP, agQ_some, nthDst, gKnown_bool, guardB_bool_true, implies_true, Bool.and_true, pLoad_agg ag28 sz28, ↓ag_build, ↓pop_buildL, bld28_, evP, List.map_nil, ↓ag_binOp, cv_binl, cv_binr, cp_binl, cp_binr, pBinX_agg, eq28, ↓ap_pick, pop_pick, pPick_bool, pickV_cond_l, pickV_and, ↓ag_move, pBinX_str, pS_eql, rd_any, cellsAt, List.getD_cons_zero, List.getD_cons_succ, Nat.zero_add, Nat.reduceAdd, lv_bool, lv_int, lv_str, allLive, Bool.and_true]
          repeat (with_reducible refine And.intro ?_ ?_; · first | trivial | omega | (intro hg; simp only [Bool.and_eq_true, Bool.or_eq_true, Bool.not_eq_true', Bool.and_eq_false_iff, Bool.or_eq_false_iff, Bool.not_eq_false', decide_eq_true_eq, decide_eq_false_iff_not, eqNil] at hg; omega) | (simp only [List.length_append, List.length_map, List.length_range, List.length_replicate, List.length_take, List.length_drop, List.length_cons, List.length_nil, List.length_set, List.length_reverse]; omega))
          first
          | (refine aOps_yes (by rfl) ?_; refine aOps_callV (V := .bool true) (by rfl) (by rfl) (c_lives w₀ ht _) ?_)
          | (refine aOps_gcall (V := .bool true) (f := _) (cap := _) (xs := _) rfl (fun hg => ⟨rfl, ?_⟩) (fun hg => c_lives w₀ ht _) ?_; · (simp (decide := true) only [gv, nthDst, Slots.get, if_true, if_false, guardB_bool_true] at hg; simp (decide := true) only [evs, hg, List.append_nil, List.map_nil] <;> try rfl))
          simp (decide := true) only [aOps_nil, ev, absV, absS, putD, Slots.put, Slots.get, Slots.keep, if_true, if_false, true_and, gv, nthDst, guardB_bool_true, ↓ap_pick, pop_pick, pPick_bool, pickV_cond_l, pickV_and, ↓ap_assign, pop_assign, Bool.and_true]
          repeat (with_reducible refine And.intro ?_ ?_; · first | trivial | omega | (intro hg; simp only [Bool.and_eq_true, Bool.or_eq_true, Bool.not_eq_true', Bool.and_eq_false_iff, Bool.or_eq_false_iff, Bool.not_eq_false', decide_eq_true_eq, decide_eq_false_iff_not, eqNil] at hg; omega) | (simp only [List.length_append, List.length_map, List.length_range, List.length_replicate, List.length_take, List.length_drop, List.length_cons, List.length_nil, List.length_set, List.length_reverse]; omega))
          apply hK; clear hK K
          refine awp_ret ?_
          try simp only [thenA_ret]
          refine retA_ret h (by repeat (first | exact Sub.refl _ | refine Sub.trans_set ?_ (by assumption))) (resPre_tmp (resPre_nil)) ?_
          simp (decide := true) only [Slots.get, if_true, and_true, resOf_one]
          rw [q1, q2, q3, q4]
          simp [noD]
        · try simp only [Bool.not_eq_false'] at hb6
          have hI' : I = true := by simpa using hb6
          rw [hI', if_pos rfl] at hlw
          rw [hI', Bool.true_and] at hdg
          have hpl := placesL_len d g s
          refine awp_skip ?_
          change Awp _ _ _ _ _ _ _
          -- region 28  law.go:275
          refine awp_rseq [5, 7, 9, 10, 16, 18, 19, 20, 21, 22] (by rfl) fun K hK => ?_
          simp (decide := true) only [aOps_nil, ev, putD, Slots.put, Slots.get, Slots.keep, if_true, if_false, true_and, ↓ap_move, pop_move, ↓ap_assign, pop_assign]
          repeat (with_reducible refine And.intro ?_ ?_; · first | trivial | omega | (intro hg; simp only [Bool.and_eq_true, Bool.or_eq_true, Bool.not_eq_true', Bool.and_eq_false_iff, Bool.or_eq_false_iff, Bool.not_eq_false', decide_eq_true_eq, decide_eq_false_iff_not, eqNil] at hg; omega) | (simp only [List.length_append, List.length_map, List.length_range, List.length_replicate, List.length_take, List.length_drop, List.length_cons, List.length_nil, List.length_set, List.length_reverse]; omega))
          apply hK; clear hK K
          refine awp_seq ?_
          -- region 29  law.go:276
          refine awp_rseq [5, 7, 9, 10, 16, 18, 19, 20, 21, 22, 23] (by rfl) fun K hK => ?_
          simp (decide := true) only [aOps_nil, ev, putD, Slots.put, Slots.get, Slots.keep, if_true, if_false, true_and, ↓ap_move, pop_move, ↓ap_assign, pop_assign]
          repeat (with_reducible refine And.intro ?_ ?_; · first | trivial | omega | (intro hg; simp only [Bool.and_eq_true, Bool.or_eq_true, Bool.not_eq_true', Bool.and_eq_false_iff, Bool.or_eq_false_iff, Bool.not_eq_false', decide_eq_true_eq, decide_eq_false_iff_not, eqNil] at hg; omega) | (simp only [List.length_append, List.length_map, List.length_range, List.length_replicate, List.length_take, List.length_drop, List.length_cons, List.length_nil, List.length_set, List.length_reverse]; omega))
          apply hK; clear hK K
          refine awp_block ?_
          refine awp_loopG [5, 7, 9, 10, 16, 18, 19, 20, 21, 22, 23] (fun i : Nat => [(5, .ptr (.own k1q2) 0), (7, .int .i64 s), (9, .bool S), (10, .str (placesL d g s)), (16, .bool (I && S)), (18, .ptr (.own k22q7) 0), (19, .int .i64 f), (20, .str t), (21, .int .i64 e), (22, .str (placesL d g s ++ List.replicate i 48)), (23, .int .i64 (s + i))]) (fun i : Nat => (((h.set k0q0 ⟨[.bool neg, v, .int .u8 sc.toNat], 0⟩).set k0q1 ⟨[.int .u8 a.toNat, .int .u8 b.toNat], 0⟩).set k1q2 ⟨[.bool d.neg, .str d.dig, .int .i64 d.scale], 0⟩).set k22q7 ⟨[.bool lo.neg, .str lo.dig, .int .i64 lo.scale], 0⟩) (fun i : Nat => (i : Int) ≤ max (-s) 0) (fun i : Nat => 100 - i) 0 (by simp [Slots.keep]) (Sub.refl _) (by omega) ?_
          intro i hi
          refine awp_seq ?_
          -- region 30  law.go:276
          refine awp_rseq [5, 7, 9, 10, 16, 18, 19, 20, 21, 22, 23, 157] (by rfl) fun K hK => ?_
          simp (decide := true) only [aOps_nil, ev, absV, absS, putD, Slots.put, Slots.get, Slots.keep, if_true, if_false, true_and, ↓ap_move, pop_move, ↓ap_binOp, pop_binOp, pBinX_int, pI_lss]
          repeat (with_reducible refine And.intro ?_ ?_; · first | trivial | omega | (intro hg; simp only [Bool.and_eq_true, Bool.or_eq_true, Bool.not_eq_true', Bool.and_eq_false_iff, Bool.or_eq_false_iff, Bool.not_eq_false', decide_eq_true_eq, decide_eq_false_iff_not, eqNil] at hg; omega) | (simp only [List.length_append, List.length_map, List.length_range, List.length_replicate, List.length_take, List.length_drop, List.length_cons, List.length_nil, List.length_set, List.length_reverse]; omega))
          apply hK; clear hK K
          refine awp_cond (b := _) rfl (fun hb7 => ?_) (fun hb7 => ?_)
          · try simp only [decide_eq_true_eq] at hb7
            refine awp_skip ?_
            change Awp _ _ _ _ _ _ _
            refine awp_seq ?_
            refine awp_block ?_
            -- region 32  law.go:277
            refine awp_r [5, 7, 9, 10, 16, 18, 19, 20, 21, 22, 23] (by rfl) ?_
            simp (decide := true) only [aOps_nil, ev, absV, absS, putD, Slots.put, Slots.get, Slots.keep, if_true, if_false, true_and, ↓ap_move, pop_move, ↓ap_binOp, pop_binOp, pBinX_str, pS_add, ↓ap_assign, pop_assign]
            repeat (with_reducible refine And.intro ?_ ?_; · first | trivial | omega | (intro hg; simp only [Bool.and_eq_true, Bool.or_eq_true, Bool.not_eq_true', Bool.and_eq_false_iff, Bool.or_eq_false_iff, Bool.not_eq_false', decide_eq_true_eq, decide_eq_false_iff_not, eqNil] at hg; omega) | (simp only [List.length_append, List.length_replicate, List.length_cons, List.length_nil]; omega))
            change Awp _ _ _ _ _ _ _
            -- region 31  law.go:276
            refine awp_r [5, 7, 9, 10, 16, 18, 19, 20, 21, 22, 23] (by rfl) ?_
            simp (decide := true) only [aOps_nil, ev, absV, absS, putD, Slots.put, Slots.get, Slots.keep, if_true, if_false, true_and, ↓ap_move, pop_move, ↓ap_binOp, pop_binOp, pBinX_int, pI_add, ↓ap_assign, pop_assign]
            try simp (disch := omega) only [wrap_i64]
            repeat (with_reducible refine And.intro ?_ ?_; · first | trivial | omega | (intro hg; simp only [Bool.and_eq_true, Bool.or_eq_true, Bool.not_eq_true', Bool.and_eq_false_iff, Bool.or_eq_false_iff, Bool.not_eq_false', decide_eq_true_eq, decide_eq_false_iff_not, eqNil] at hg; omega) | (simp only [List.length_append, List.length_map, List.length_range, List.length_replicate, List.length_take, List.length_drop, List.length_cons, List.length_nil, List.length_set, List.length_reverse]; omega))
            try simp only [thenA_normal]
            refine ⟨i + 1, ?_, Sub.refl _, by omega, by omega⟩
            rw [show ((i + 1 : Nat) : Int) = (i : Int) + 1 by omega, ← Int.add_assoc, List.replicate_succ', ← List.append_assoc]
            rfl
          · try simp only [decide_eq_false_iff_not] at hb7
            have his : i = (-s).toNat := by omega
            rw [his]
            have hpa : (placesL d g s ++ List.replicate (-s).toNat 48).all dg = true := by rw [all_append, all_zeros, placesL_all dd]; rfl
            refine awp_exit ?_
            change Awp _ _ _ _ _ _ _
            -- region 33  law.go:279
            refine awp_rseq [5, 9, 10, 16, 18, 19, 20, 21, 24] (by rfl) fun K hK => ?_
            simp (decide := true) only [ev, absV, absS, putD, Slots.put, Slots.get, if_true, if_false, true_and, ↓ap_fieldAddr, pop_fieldAddr, fa28_0, ↓ap_loadL, apL_mk, pLoad_one ag4, ↓ap_move, pop_move, ↓ap_max, pop_max, pMax_int, evs, List.map_cons, List.map_nil, rd_ne', ne_eq, not_false_eq_true, ne_22q7_1q2.symm, rd_any, List.getD_cons_zero, Nat.zero_add, lv_bool]
            repeat (with_reducible refine And.intro ?_ ?_; · first | trivial | omega | (intro hg; simp only [Bool.and_eq_true, Bool.or_eq_true, Bool.not_eq_true', Bool.and_eq_false_iff, Bool.or_eq_false_iff, Bool.not_eq_false', decide_eq_true_eq, decide_eq_false_iff_not, eqNil] at hg; omega) | (simp only [List.length_append, List.length_map, List.length_range, List.length_replicate, List.length_take, List.length_drop, List.length_cons, List.length_nil, List.length_set, List.length_reverse]; omega))
            refine aOps_callV (V := decA (lowD d g s)) (by rfl) (by rfl) ((c_Normal w₀ _ d.neg _ _ hpa (by simp; omega) (by omega) (by omega)).val (by rw [natOf_append, natOf_zeros, List.length_replicate, Nat.add_zero, lowD, stepsD, show (max s 0).toNat = s.toNat by omega])) ?_
            refine aOps_alloc ze28 (cs := [.bool false, .str [], .int .i64 0]) (by rfl) fun k33q6 hk33q6 => ?_
            have ne_33q6_0q0 : k33q6 ≠ k0q0 := by simp only [AHeap.set_none] at hk33q6; simp only [hk33q6, ne_eq, not_false_eq_true]
            have ne_33q6_0q1 : k33q6 ≠ k0q1 := by simp only [AHeap.set_none] at hk33q6; simp only [hk33q6, ne_eq, not_false_eq_true]
            have ne_33q6_1q2 : k33q6 ≠ k1q2 := by simp only [AHeap.set_none] at hk33q6; simp only [hk33q6, ne_eq, not_false_eq_true]
            have ne_33q6_22q7 : k33q6 ≠ k22q7 := by simp only [AHeap.set_none] at hk33q6; simp only [hk33q6, ne_eq, not_false_eq_true]
            try have hf_33q6 : h k33q6 = none := by first | assumption | (simp only [AHeap.set_none] at hk33q6; simp only [hk33q6])
            refine aOps_store (by rfl) (by rfl) (by repeat (first | exact AHeap.set_same _ _ _ | assumption | refine (AHeap.set_ne _ _ (by first | assumption | exact Ne.symm (by assumption))).trans ?_)) sz28 (by rfl) (by rfl) (by first | exact Nat.le_refl _ | decide | (simp; done) | (simp; omega)) (Nat.zero_le _) (by rfl) ?_
            simp only [AHeap.set_set, AVal.cells]
            simp (decide := true) only [aOps_nil, ev, putD, Slots.put, Slots.get, Slots.keep, if_true, if_false, setAt, List.set_cons_zero, List.set_cons_succ, Nat.zero_add, Nat.reduceAdd, decA]
            repeat (with_reducible refine And.intro ?_ ?_; · first | trivial | omega | (intro hg; simp only [Bool.and_eq_true, Bool.or_eq_true, Bool.not_eq_true', Bool.and_eq_false_iff, Bool.or_eq_false_iff, Bool.not_eq_false', decide_eq_true_eq, decide_eq_false_iff_not, eqNil] at hg; omega) | (simp only [List.length_append, List.length_map, List.length_range, List.length_replicate, List.length_take, List.length_drop, List.length_cons, List.length_nil, List.length_set, List.length_reverse]; omega))
            apply hK; clear hK K
            refine awp_seq ?_
            -- region 34  law.go:280
            refine awp_rseq [5, 9, 10, 16, 18, 19, 20, 21, 24, 170] (by rfl) fun K hK => ?_
            simp (decide := true) only [ev, putD, Slots.put, Slots.get, if_true, if_false, true_and, ↓ap_loadL, apL_mk, pLoad_agg ag28 sz28, rd_any, cellsAt, List.getD_cons_zero, List.getD_cons_succ, Nat.zero_add, Nat.reduceAdd, lv_bool, lv_int, lv_str, allLive, Bool.and_true]
            repeat (with_reducible refine And.intro ?_ ?_; · first | trivial | omega | (intro hg; simp only [Bool.and_eq_true, Bool.or_eq_true, Bool.not_eq_true', Bool.and_eq_false_iff, Bool.or_eq_false_iff, Bool.not_eq_false', decide_eq_true_eq, decide_eq_false_iff_not, eqNil] at hg; omega) | (simp only [List.length_append, List.length_map, List.length_range, List.length_replicate, List.length_take, List.length_drop, List.length_cons, List.length_nil, List.length_set, List.length_reverse]; omega))
            refine aOps_callV (V := .int .i64 (long (lowD d g s))) (by rfl) (by rfl) (c_Long w₀ _ _) ?_
            simp (decide := true) only [aOps_nil, ev, absV, absS, putD, Slots.put, Slots.get, Slots.keep, if_true, if_false, true_and, ↓ap_binOp, pop_binOp, pBinX_int, pI_gtr]
            repeat (with_reducible refine And.intro ?_ ?_; · first | trivial | omega | (intro hg; simp only [Bool.and_eq_true, Bool.or_eq_true, Bool.not_eq_true', Bool.and_eq_false_iff, Bool.or_eq_false_iff, Bool.not_eq_false', decide_eq_true_eq, decide_eq_false_iff_not, eqNil] at hg; omega) | (simp only [List.length_append, List.length_map, List.length_range, List.length_replicate, List.length_take, List.length_drop, List.length_cons, List.length_nil, List.length_set, List.length_reverse]; omega))
            apply hK; clear hK K
            refine awp_cond (b := _) rfl (fun hb8 => ?_) (fun hb8 => ?_)
            · try simp only [decide_eq_true_eq] at hb8
              -- region 35  law.go:281
              refine awp_rseq [4] (by rfl) fun K hK => ?_
              simp (decide := true) only [ev, absV, absS, putD, Slots.put, Slots.get, if_true, if_false, true_and, ↓ap_move, pop_move, ↓ap_binOp, pop_binOp, pBinX_int, pI_eql]
              repeat (with_reducible refine And.intro ?_ ?_; · first | trivial | omega | (intro hg; simp only [Bool.and_eq_true, Bool.or_eq_true, Bool.not_eq_true', Bool.and_eq_false_iff, Bool.or_eq_false_iff, Bool.not_eq_false', decide_eq_true_eq, decide_eq_false_iff_not, eqNil] at hg; omega) | (simp only [List.length_append, List.length_map, List.length_range, List.length_replicate, List.length_take, List.length_drop, List.length_cons, List.length_nil, List.length_set, List.length_reverse]; omega))
              first
              | (refine aOps_yes (by rfl) ?_; refine aOps_callV (V := .bool true) (by rfl) (by rfl) (c_lives w₀ ht _) ?_)
              | (refine aOps_gcall (V := .bool true) (f := _) (cap := _) (xs := _) rfl (fun hg => ⟨rfl, ?_⟩) (fun hg => c_lives w₀ ht _) ?_; · (simp (decide := true) only [gv, nthDst, Slots.get, if_true, if_false, guardB_bool_true] at hg; simp (decide := true) only [evs, hg, List.append_nil, List.map_nil] <;> try rfl))
              simp (decide := true) only [aOps_nil, ev, absV, absS, putD, Slots.put, Slots.get, Slots.keep, if_true, if_false, true_and, gv, nthDst, guardB_bool_true, ↓ap_pick, pop_pick, pPick_bool, pickV_cond_l, pickV_and, ↓ap_assign, pop_assign, Bool.and_true]
              repeat (with_reducible refine And.intro ?_ ?_; · first | trivial | omega | (intro hg; simp only [Bool.and_eq_true, Bool.or_eq_true, Bool.not_eq_true', Bool.and_eq_false_iff, Bool.or_eq_false_iff, Bool.not_eq_false', decide_eq_true_eq, decide_eq_false_iff_not, eqNil] at hg; omega) | (simp only [List.length_append, List.length_map, List.length_range, List.length_replicate, List.length_take, List.length_drop, List.length_cons, List.length_nil, List.length_set, List.length_reverse]; omega))
              apply hK; clear hK K
              refine awp_ret ?_
              try simp only [thenA_ret]
              refine retA_ret h (by repeat (first | exact Sub.refl _ | refine Sub.trans_set ?_ (by assumption))) (resPre_tmp (resPre_nil)) ?_
              simp (decide := true) only [Slots.get, if_true, and_true, resOf_one]
              rw [resE_long hb8] at hlw
              obtain ⟨q1, q2⟩ := Prod.mk.inj hlw
              rw [q2]
              simp
            · try simp only [decide_eq_false_iff_not] at hb8
              rw [resE_ok (by omega)] at hlw
              obtain ⟨q1, q2⟩ := Prod.mk.inj hlw
              have hsame := low_same hv g0 (g := g) (s := s) (by rw [← hI]; exact hI')
              rw [← hS] at hsame
              refine awp_skip ?_
              change Awp _ _ _ _ _ _ _
              refine awp_seq ?_
              -- region 36  law.go:283
              refine awp_rseq [9, 10, 20, 21, 189] (by rfl) fun K hK => ?_
              simp (decide := true) only [aOps_nil, ev, absV, absS, putD, Slots.put, Slots.get, Slots.keep, if_true, if_false, true_and, ↓ap_move, pop_move, ↓ap_binOp, pop_binOp, pBinX_int, pI_neq, ↓ag_loadL, agQL_some, agL_mk, agP, agQ_some, nthDst, gKnown_bool, guardB_bool_false, implies_true, Bool.not_not, Bool.and_true, pLoad_agg ag28 sz28, ↓ag_binOp, cv_binl, cv_binr, cp_binl, cp_binr, pBinX_agg, ne28, ↓ap_pick, pop_pick, pPick_bool, pickV_cond_r, pickV_cond_rn, pickV_or, eq28, ↓ag_move, pBinX_bne, Tryd.underlying4, rd_ne', ne_eq, not_false_eq_true, ne_22q7_1q2.symm, ne_33q6_1q2.symm, ne_33q6_22q7.symm, rd_any, cellsAt, List.getD_cons_zero, List.getD_cons_succ, Nat.zero_add, Nat.reduceAdd, lv_bool, lv_int, lv_str, allLive, Bool.and_true]
              repeat (with_reducible refine And.intro ?_ ?_; · first | trivial | omega | (intro hg; simp only [Bool.and_eq_true, Bool.or_eq_true, Bool.not_eq_true', Bool.and_eq_false_iff, Bool.or_eq_false_iff, Bool.not_eq_false', decide_eq_true_eq, decide_eq_false_iff_not, eqNil] at hg; omega) | (simp only [List.length_append, List.length_map, List.length_range, List.length_replicate, List.length_take, List.length_drop, List.length_cons, List.length_nil, List.length_set, List.length_reverse]; omega))
              apply hK; clear hK K
              refine awp_cond (b := _) rfl (fun hb9 => ?_) (fun hb9 => ?_)
              · try simp only [decide_eq_false_iff_not, Bool.not_eq_true', Bool.and_eq_false_iff, Bool.or_eq_true] at hb9
                -- region 37  law.go:284
                refine awp_rseq [4] (by rfl) fun K hK => ?_
                simp (decide := true) only [aOps_nil, ev, absV, absS, putD, Slots.put, Slots.keep, if_true, if_false, true_and, ↓ap_assign, pop_assign]
                repeat (with_reducible refine And.intro ?_ ?_; · first | trivial | omega | (intro hg; simp only [Bool.and_eq_true, Bool.or_eq_true, Bool.not_eq_true', Bool.and_eq_false_iff, Bool.or_eq_false_iff, Bool.not_eq_false', decide_eq_true_eq, decide_eq_false_iff_not, eqNil] at hg; omega) | (simp only [List.length_append, List.length_map, List.length_range, List.length_replicate, List.length_take, List.length_drop, List.length_cons, List.length_nil, List.length_set, List.length_reverse]; omega))
                apply hK; clear hK K
                refine awp_ret ?_
                try simp only [thenA_ret]
                refine retA_ret h (by repeat (first | exact Sub.refl _ | refine Sub.trans_set ?_ (by assumption))) (resPre_tmp (resPre_nil)) ?_
                simp (decide := true) only [Slots.get, if_true, and_true, resOf_one]
                exfalso
                rw [hI', Bool.true_and, q1, q2, eqD3, hsame] at hb9
                simp at hb9
              · try simp only [decide_eq_true_eq, Bool.not_eq_false', Bool.and_eq_true, Bool.or_eq_false_iff] at hb9
                refine awp_skip ?_
                change Awp _ _ _ _ _ _ _
                -- region 38  law.go:286
                refine awp_rseq [4] (by rfl) fun K hK => ?_
                simp (decide := true) only [ev, absV, absS, putD, Slots.put, Slots.get, if_true, if_false, true_and, ↓ap_move, pop_move, ↓ap_binOp, pop_binOp, pBinX_int, pI_eql, pBinX_beq, Tryd.underlying4, ↓ag_move, agP, agQ_some, nthDst, gKnown_bool, gKnown_cond, guardB_cond, guardB_bool_true, guardB_bool_false, cv_cv, implies_true, ↓ag_binOp, cv_binl, cv_binr, cp_binl, cp_binr, pBinX_str, pS_eql, ↓ag_pick, pop_pick, pPick_bool, pickV_cond_l, cp_nest1, cp_nest2, pickV_and, pickV_or, cv_pick, cp_pick, ↓ag_unOp, pop_unOp, pU_not, cv_un, cp_un, ↓ap_pick]
                try simp (disch := omega) only [Int.tmod_eq_emod_of_nonneg, Int.tdiv_eq_ediv_of_nonneg, wrap_i64, wrap_u8]
                repeat (with_reducible refine And.intro ?_ ?_; · first | trivial | omega | (intro hg; simp only [Bool.and_eq_true, Bool.or_eq_true, Bool.not_eq_true', Bool.and_eq_false_iff, Bool.or_eq_false_iff, Bool.not_eq_false', decide_eq_true_eq, decide_eq_false_iff_not, eqNil] at hg; omega) | (simp only [List.length_append, List.length_map, List.length_range, List.length_replicate, List.length_take, List.length_drop, List.length_cons, List.length_nil, List.length_set, List.length_reverse]; omega))
                first
                | (refine aOps_yes (by rfl) ?_; refine aOps_callV (V := .bool true) (by rfl) (by rfl) (c_lives w₀ ht _) ?_)
                | (refine aOps_gcall (V := .bool true) (f := _) (cap := _) (xs := _) rfl (fun hg => ⟨rfl, ?_⟩) (fun hg => c_lives w₀ ht _) ?_; · (simp (decide := true) only [gv, nthDst, Slots.get, if_true, if_false, guardB_bool_true] at hg; simp (decide := true) only [evs, hg, List.append_nil, List.map_nil] <;> try rfl))
                simp (decide := true) only [aOps_nil, ev, absV, absS, putD, Slots.put, Slots.get, Slots.keep, if_true, if_false, true_and, gv, nthDst, guardB_bool_true, ↓ap_pick, pop_pick, pPick_bool, pickV_cond_l, pickV_and, ↓ap_assign, pop_assign, Bool.and_true]
                repeat (with_reducible refine And.intro ?_ ?_; · first | trivial | omega | (intro hg; simp only [Bool.and_eq_true, Bool.or_eq_true, Bool.not_eq_true', Bool.and_eq_false_iff, Bool.or_eq_false_iff, Bool.not_eq_false', decide_eq_true_eq, decide_eq_false_iff_not, eqNil] at hg; omega) | (simp only [List.length_append, List.length_map, List.length_range, List.length_replicate, List.length_take, List.length_drop, List.length_cons, List.length_nil, List.length_set, List.length_reverse]; omega))
                apply hK; clear hK K
                refine awp_ret ?_
                try simp only [thenA_ret, inBlockA_ret]
                refine retA_ret h (by repeat (first | exact Sub.refl _ | refine Sub.trans_set ?_ (by assumption))) (resPre_tmp (resPre_nil)) ?_
                simp (decide := true) only [Slots.get, if_true, and_true, resOf_one]
                cases S with
                | true =>
                  obtain ⟨q3, q4⟩ := Prod.mk.inj hdg
                  rw [q3, q4]
                  simp
                | false =>
                  obtain ⟨q3, q4⟩ := Prod.mk.inj hdg
                  rw [q3, q4]
                  simp
end Go.Proofs.YtnaioficflbioaaDoor
