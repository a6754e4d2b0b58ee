/-
  Texts of this proof, joined: CoK, CoL, CoM, CoN, CoO, CoP, CoQ, CoR, TlD, TmA, CoS, CoT, CoV, CoW, TnC, TkU, TnA, TnD, TnE, TlE, TnB, TnF, TnG.
  Conditions: none.
-/
import Derived.Test.YtmadddihphkmoaaGreatDoorBd
import Derived.Test.YtmadddihphkmoaaGreatDoorBc
set_option linter.unusedSimpArgs false
set_option linter.unnecessarySimpa false
set_option linter.unusedVariables false
/-
  Contracts: space of the package columns; Printable of the package chars.
  Conditions: none.
-/
namespace Go.Proofs.YtmadddihphkmoaaGreatDoor
open Go.AM
open Go.Proofs
open Go.Col
set_option maxRecDepth 100000

theorem c_space1 (w₀ : World) (h : AHeap) (k3 k5 k7 : Nat) (s : Str) (q : Bool) (i : Nat) (f : Nat) (h3 : h k3 = some ⟨[.str s], 0⟩) (h5 : h k5 = some ⟨[.bool q], 0⟩) (h7 : h k7 = some ⟨[.int .i64 f], 0⟩) (n53 : k5 ≠ k3) (n73 : k7 ≠ k3) (n75 : k7 ≠ k5) (hi : i < s.length) :
    ACall Tryz.prog w₀ 98 [.int .i64 i, .ptr (.own k3) 0, .ptr (.own k5) 0, .ptr (.own k7) 0] h
      (fun v h' => v = .tuple [] ∧ h' = (h.set k5 ⟨[.bool (if s.getD i 0 = 34 then !q else q)], 0⟩).set k7 ⟨[.int .i64 (if s.getD i 0 = 32 ∧ (if s.getD i 0 = 34 then !q else q) = false ∧ 0 < i then (i : Nat) else f : Nat)], 0⟩) := by
  have r3 := fun o => Xd w₀ h3 o
  have r5 := fun o => Xd w₀ h5 o
  have q3 : (h.set k5 ⟨[.bool (!q)], 0⟩) k3 = some ⟨[.str s], 0⟩ := (AHeap.set_ne _ _ n53.symm).trans h3
  have r3' := fun o => Xd w₀ q3 o
  have hself5 := Zj h5
  have h7' := (AHeap.set_ne h ⟨[.bool (!q)], 0⟩ n75).trans h7
  have hself7 := Zj h7
  have hself7' := Zj h7'
  refine qY (n := 24) (rs := []) Tryz.func98 rfl rfl rfl rfl (Nat.le_of_ble_eq_true rfl) ?_
  simp only [Qf]
  refine qN ?_
  refine awp_rseq [0, 1, 2, 3, 8] (by rfl) fun K hK => ?_
  simp +decide only [qa, ev, qK, qH, putD, Slots.put, Slots.get, Slots.keep, if_true, if_false, true_and, ↓qJ, Qb, qD ag9, ↓qg, qd, ↓ap_index, pop_index, pIndex_str Tryz.underlying9, ↓qw, qh, qz, cond_false, qm, Xo, List.getD_cons_zero, Nat.zero_add, Nat.reduceAdd, qE, r3, Int.toNat_natCast]
  repeat (with_reducible refine And.intro ?_ ?_; · first | trivial | omega | (intro hg; simp only [Bool.and_eq_true, Bool.or_eq_true, Bool.not_eq_true', Bool.and_eq_false_iff, Bool.or_eq_false_iff, Bool.not_eq_false', decide_eq_true_eq, decide_eq_false_iff_not, XI] at hg; omega) )
  apply hK; clear hK K
  refine qM (b := _) rfl (fun hb1 => ?_) (fun hb1 => ?_)
  · try simp only [decide_eq_true_eq] at hb1
    have e34 : s.getD i 0 = 34 := (XB _ 34).mp hb1
    refine Xl [0, 1, 2, 3] (by rfl) ?_
    simp +decide only [ev, putD, Slots.put, Slots.get, if_true, if_false, true_and, ↓qJ, Qb, qD ag4, ↓ap_unOp, pop_unOp, pU_not, List.getD_cons_zero, qC, r5]
    refine qp (v := .bool (!q)) (by rfl) (by rfl) h5 sz4 (by rfl) (by rfl) (by simp) (Nat.zero_le _) (by rfl) ?_
    simp only [setAt, AVal.cells, List.set_cons_zero]
    simp +decide only [qa, putD, Slots.keep, if_true, if_false]
    change Awp _ _ _ _ _ _ _
    refine awp_rseq [0, 3, 22] (by rfl) fun K hK => ?_
    simp +decide only [qa, ev, qK, qH, putD, Slots.put, Slots.get, Slots.keep, if_true, if_false, true_and, ↓qJ, Qb, qD ag9, ↓qg, qd, ↓ap_index, pop_index, pIndex_str Tryz.underlying9, ↓qw, qh, qz, cond_false, qm, Xo, ↓Zm, XY, agL_mk, agP, Qm, qI, qG, qy, implies_true, Bool.not_not, qD ag4, ↓ag_unOp, pop_unOp, pU_not, cv_un, cp_un, ↓QN, Qw, Qg, QZ, Xj, ↓Xf, ↓QW, XR, XT, pI_gtr, Xa, List.getD_cons_zero, qC, qE, r3', Int.toNat_natCast]
    repeat (with_reducible refine And.intro ?_ ?_; · first | trivial | omega | (intro hg; simp only [Bool.and_eq_true, Bool.or_eq_true, Bool.not_eq_true', Bool.and_eq_false_iff, Bool.or_eq_false_iff, Bool.not_eq_false', decide_eq_true_eq, decide_eq_false_iff_not, XI] at hg; omega) )
    apply hK; clear hK K
    refine qM (b := _) rfl (fun hb2 => ?_) (fun hb2 => ?_)
    · try simp only [decide_eq_true_eq, Bool.and_eq_true] at hb2
      refine Xl [] (by rfl) ?_
      simp +decide only [ev, putD, Slots.put, Slots.get, if_true, if_false, true_and, ↓qg, qd]
      skip
      first
      | refine qp (v := .int .i64 i) (by rfl) (by rfl) h7 sz3 (by rfl) (by rfl) (by simp) (Nat.zero_le _) (by rfl) ?_
      | refine qp (v := .int .i64 i) (by rfl) (by rfl) h7' sz3 (by rfl) (by rfl) (by simp) (Nat.zero_le _) (by rfl) ?_
      simp only [setAt, AVal.cells, List.set_cons_zero]
      simp +decide only [qa, putD, Slots.keep, if_false]
      refine retA_end _ (Sub.refl _) (Qe) ?_
      simp +decide only [true_and, resOf_nil]
      rw [if_pos e34, if_pos ⟨(XB _ 32).mp hb2.1.1, by rw [hb2.1.2]; rfl, by omega⟩]
    · try simp only [decide_eq_false_iff_not, Bool.and_eq_false_iff] at hb2
      refine qZ ?_
      refine retA_end _ (Sub.refl _) (Qe) ?_
      simp +decide only [true_and, resOf_nil]
      rw [if_pos e34, if_neg, hself7']
      rintro ⟨a, b, c⟩
      rcases hb2 with (e | e) | e
      · exact e ((XB _ 32).mpr a)
      · rw [e] at b; cases b
      · omega
  · try simp only [decide_eq_false_iff_not] at hb1
    have e34 : ¬ s.getD i 0 = 34 := fun e => hb1 ((XB _ 34).mpr e)
    refine qZ ?_
    change Awp _ _ _ _ _ _ _
    refine awp_rseq [0, 3, 22] (by rfl) fun K hK => ?_
    simp +decide only [qa, ev, qK, qH, putD, Slots.put, Slots.get, Slots.keep, if_true, if_false, true_and, ↓qJ, Qb, qD ag9, ↓qg, qd, ↓ap_index, pop_index, pIndex_str Tryz.underlying9, ↓qw, qh, qz, cond_false, qm, Xo, ↓Zm, XY, agL_mk, agP, Qm, qI, qG, qy, implies_true, qD ag4, ↓ag_unOp, pop_unOp, pU_not, cv_un, cp_un, ↓QN, Qw, Qg, QZ, Xj, ↓Xf, ↓QW, XR, XT, pI_gtr, List.getD_cons_zero, qC, qE, r3, r5, Int.toNat_natCast]
    repeat (with_reducible refine And.intro ?_ ?_; · first | trivial | omega | (intro hg; simp only [Bool.and_eq_true, Bool.or_eq_true, Bool.not_eq_true', Bool.and_eq_false_iff, Bool.or_eq_false_iff, Bool.not_eq_false', decide_eq_true_eq, decide_eq_false_iff_not, XI] at hg; omega) )
    apply hK; clear hK K
    refine qM (b := _) rfl (fun hb3 => ?_) (fun hb3 => ?_)
    · try simp only [decide_eq_true_eq, Bool.not_eq_true', Bool.and_eq_true] at hb3
      refine Xl [] (by rfl) ?_
      simp +decide only [ev, putD, Slots.put, Slots.get, if_true, if_false, true_and, ↓qg, qd]
      skip
      first
      | refine qp (v := .int .i64 i) (by rfl) (by rfl) h7 sz3 (by rfl) (by rfl) (by simp) (Nat.zero_le _) (by rfl) ?_
      | refine qp (v := .int .i64 i) (by rfl) (by rfl) h7' sz3 (by rfl) (by rfl) (by simp) (Nat.zero_le _) (by rfl) ?_
      simp only [setAt, AVal.cells, List.set_cons_zero]
      simp +decide only [qa, putD, Slots.keep, if_false]
      refine retA_end _ (Sub.refl _) (Qe) ?_
      simp +decide only [true_and, resOf_nil]
      rw [if_neg e34, if_pos ⟨(XB _ 32).mp hb3.1.1, hb3.1.2, by omega⟩, hself5]
    · try simp only [decide_eq_false_iff_not, Bool.not_eq_false', Bool.and_eq_false_iff] at hb3
      refine qZ ?_
      refine retA_end _ (Sub.refl _) (Qe) ?_
      simp +decide only [true_and, resOf_nil]
      rw [if_neg e34, if_neg, hself5, hself7]
      rintro ⟨a, b, c⟩
      rcases hb3 with (e | e) | e
      · exact e ((XB _ 32).mpr a)
      · rw [e] at b; cases b
      · omega

theorem spaceGo_step {s : Str} {i n : Nat} {q : Bool} {f : Nat} (hi : i < s.length) (hn : i ≤ n) : spaceGo (s.drop i) i n q f = spaceGo (s.drop (i + 1)) (i + 1) n (if s.getD i 0 = 34 then !q else q) (if s.getD i 0 = 32 ∧ (if s.getD i 0 = 34 then !q else q) = false ∧ 0 < i then i else f) := by
  rw [List.drop_eq_getElem_cons hi, spaceGo, if_neg (by omega)]
  simp only [List.getD, List.getElem?_eq_getElem hi, Option.getD_some]
theorem spaceGo_stop {s : Str} {i n : Nat} {q : Bool} {f : Nat} (h : n < i ∨ s.length ≤ i) : spaceGo (s.drop i) i n q f = f := by
  rcases h with h | h
  · cases s.drop i with
    | nil => rfl
    | cons b l => rw [spaceGo, if_pos h]
  · rw [List.drop_of_length_le h]
    rfl
structure SpG where
  i : Nat
  q : Bool
  f : Nat
theorem c_space (w₀ : World) (h : AHeap) (s : Str) (n : Nat) (q : Bool) (hl : s.length ≤ 4611686018427387904) (hn : n ≤ 1099511627776) : ACall Tryz.prog w₀ 72 [.str s, .int .i64 n, .bool q] h (fun v h' => v = .int .i64 (Xn s n q) ∧ h' = h) := by
  refine qY (n := 26) (rs := [.tmp 6]) Tryz.func72 rfl rfl rfl rfl (Nat.le_of_ble_eq_true rfl) ?_
  simp only [Qf]
  refine awp_rseq [1, 3, 5] (by rfl) fun K hK => ?_
  refine aOps_box (by rfl) (by rfl) (by rfl) fun k0q0 hk0q0 => ?_
  try have hf_0q0 : h k0q0 = none := by first | assumption | (simp only [AHeap.set_none] at hk0q0; simp only [hk0q0])
  skip
  refine aOps_box (by rfl) (by rfl) (by rfl) fun k0q1 hk0q1 => ?_
  have ne_0q1_0q0 : k0q1 ≠ k0q0 := by simp only [AHeap.set_none] at hk0q1; simp only [hk0q1, ne_eq, not_false_eq_true]
  try have hf_0q1 : h k0q1 = none := by first | assumption | (simp only [AHeap.set_none] at hk0q1; simp only [hk0q1])
  skip
  simp +decide only [qa, ev, qK, qH, putD, Slots.put, Slots.get, Slots.keep, if_true, if_false, true_and, ↓qc, qb, AVal.cells, Nat.zero_add, Nat.reduceAdd]
  apply hK; clear hK K
  refine awp_rseq [1, 3, 5, 7] (by rfl) fun K hK => ?_
  refine Qh ze3 (cs := [.int .i64 0]) (by rfl) fun k1q0 hk1q0 => ?_
  have ne_1q0_0q0 : k1q0 ≠ k0q0 := by simp only [AHeap.set_none] at hk1q0; simp only [hk1q0, ne_eq, not_false_eq_true]
  have ne_1q0_0q1 : k1q0 ≠ k0q1 := by simp only [AHeap.set_none] at hk1q0; simp only [hk1q0, ne_eq, not_false_eq_true]
  try have hf_1q0 : h k1q0 = none := by first | assumption | (simp only [AHeap.set_none] at hk1q0; simp only [hk1q0])
  refine qp (by rfl) (by rfl) (by repeat (first | exact AHeap.set_same _ _ _ | assumption | refine (AHeap.set_ne _ _ (by first | assumption | exact Ne.symm (by assumption))).trans ?_)) sz3 (by rfl) (by rfl) (by first | exact Nat.le_refl _ | decide | (simp; done) | (simp; omega)) (Nat.zero_le _) (by rfl) ?_
  simp only [AHeap.set_set, AVal.cells]
  simp +decide only [qa, ev, qK, qH, putD, Slots.put, Slots.keep, if_true, if_false, setAt, List.set_cons_zero]
  apply hK; clear hK K
  refine awp_rseq [1, 3, 7, 8] (by rfl) fun K hK => ?_
  simp +decide only [qa, ev, putD, Slots.put, Slots.get, Slots.keep, if_true, if_false, true_and, ↓ap_makeFunc, pop_makeFunc, evs, List.map_cons, List.map_nil, ↓qc, qb]
  apply hK; clear hK K
  refine qN ?_
  refine awp_rseq [1, 3, 7, 8, 9] (by rfl) fun K hK => ?_
  simp +decide only [qa, ev, qK, qH, putD, Slots.put, Slots.keep, if_true, if_false, true_and, ↓qc, qb]
  apply hK; clear hK K
  refine Qt ?_
  refine XW [1, 3, 7, 8, 9] (fun g : SpG => [(1, .int .i64 n), (3, .ptr (.own k0q0) 0), (7, .ptr (.own k1q0) 0), (8, .func 98 [.ptr (.own k0q0) 0, .ptr (.own k0q1) 0, .ptr (.own k1q0) 0]), (9, .int .i64 g.i)]) (fun g : SpG => ((h.set k0q0 ⟨[.str s], 0⟩).set k0q1 ⟨[.bool g.q], 0⟩).set k1q0 ⟨[.int .i64 g.f], 0⟩) (fun g : SpG => g.i ≤ s.length ∧ g.i ≤ n + 1 ∧ spaceGo (s.drop g.i) g.i n g.q g.f = Xn s n q) (fun g : SpG => s.length - g.i) ⟨0, q, 0⟩ (by rfl) (Sub.refl _) ⟨Nat.zero_le _, Nat.zero_le _, rfl⟩ ?_
  rintro ⟨i, q', f⟩ ⟨hi, hin, hg⟩
  simp only at hi hin hg ⊢
  refine qN ?_
  refine awp_rseq [1, 3, 7, 8, 9, 19] (by rfl) fun K hK => ?_
  simp +decide only [qa, ev, qK, qH, putD, Slots.put, Slots.get, Slots.keep, if_true, if_false, true_and, ↓qg, qd, ↓qw, qh, qP, cond_false, qm, pI_leq, ↓Xf, agP, Qm, qI, qG, qy, implies_true, ↓Zm, XY, agL_mk, qD ag9, ↓ag_len, QH, Zk Tryz.underlying9, cv_len, cp_len, ↓QW, XR, cv_binr, XT, cp_binr, pI_lss, ↓QN, Qw, Qg, QZ, Xj, XG, ne_eq, not_false_eq_true, ne_0q1_0q0.symm, ne_1q0_0q0.symm, Xa, List.getD_cons_zero, qE]
  apply hK; clear hK K
  refine qM (b := _) rfl (fun hb1 => ?_) (fun hb1 => ?_)
  · try simp only [decide_eq_true_eq, Bool.and_eq_true] at hb1
    have hi' : i < s.length := by omega
    refine qZ ?_
    change Awp _ _ _ _ _ _ _
    refine qN ?_
    refine Qt ?_
    refine Xl [1, 3, 7, 8, 9] (by rfl) ?_
    simp +decide only [ev, putD, Slots.put, Slots.get, if_true, if_false, true_and, ↓qg, qd]
    refine Xp (by rfl) (by rfl) (c_space1 w₀ _ k0q0 k0q1 k1q0 s q' i f (by repeat (first | exact AHeap.set_same _ _ _ | assumption | refine (AHeap.set_ne _ _ (by first | assumption | exact Ne.symm (by assumption))).trans ?_)) (by repeat (first | exact AHeap.set_same _ _ _ | assumption | refine (AHeap.set_ne _ _ (by first | assumption | exact Ne.symm (by assumption))).trans ?_)) (by repeat (first | exact AHeap.set_same _ _ _ | assumption | refine (AHeap.set_ne _ _ (by first | assumption | exact Ne.symm (by assumption))).trans ?_)) (by assumption) (by assumption) (by assumption) hi') fun x6q2 h6q2 hx6q2 => ?_
    obtain ⟨rfl, rfl⟩ := hx6q2
    simp +decide only [qa, putD, Slots.put, Slots.keep, if_true, if_false]
    change Awp _ _ _ _ _ _ _
    refine Xl [1, 3, 7, 8, 9] (by rfl) ?_
    simp +decide only [qa, ev, qK, qH, putD, Slots.put, Slots.get, Slots.keep, if_true, if_false, true_and, ↓qg, qd, ↓qw, qh, qz, cond_false, qm, Xk, ↓qc, qb]
    try simp (disch := omega) only [wrap_i64]
    try simp only [qR]
    refine ⟨⟨i + 1, _, _⟩, rfl, ?_, ⟨hi', by simp only; omega, by simp only; rw [← hg, spaceGo_step hi' (by omega)]⟩, by simp only; omega⟩
    rw [AHeap.set_comm _ _ _ ne_1q0_0q1.symm, AHeap.set_set, AHeap.set_set]
    exact Sub.refl _
  · try simp only [decide_eq_false_iff_not, Bool.and_eq_false_iff] at hb1
    refine Ze ?_
    change Awp _ _ _ _ _ _ _
    refine awp_rseq [6] (by rfl) fun K hK => ?_
    simp +decide only [qa, ev, putD, Slots.put, Slots.get, Slots.keep, if_true, if_false, true_and, ↓qJ, Qb, qD ag3, ↓qc, qb, Xa, List.getD_cons_zero, qj]
    apply hK; clear hK K
    refine qU ?_
    refine qO h (by repeat (first | exact Sub.refl _ | assumption | refine Sub.trans_set ?_ (by assumption))) (Qd (Qe)) ?_
    simp +decide only [Slots.get, if_true, and_true, QD]
    rw [← hg, spaceGo_stop (by omega)]

/-! ### Printable -/
theorem c_prt1 (w₀ : World) (h : AHeap) (b : UInt8) : ACall Tryz.prog w₀ 69 [.int .u8 b.toNat] h (fun v h' => v = .bool (okB b) ∧ h' = h) := by
  refine qY (n := 9) (rs := [.tmp 2]) Tryz.func69 rfl rfl rfl rfl (Nat.le_of_ble_eq_true rfl) ?_
  simp only [Qf]
  refine awp_rseq [0] (by rfl) fun K hK => ?_
  simp +decide only [qa, ev, qK, qH, putD, Slots.put, Slots.keep, if_true, if_false, true_and, ↓qc, qb]
  apply hK; clear hK K
  refine awp_rseq [2] (by rfl) fun K hK => ?_
  simp +decide only [qa, ev, qK, qH, putD, Slots.put, Slots.get, Slots.keep, if_true, if_false, true_and, ↓qg, qd, ↓qw, qh, qz, cond_false, qm, pI_geq, ↓Xf, agP, Qm, qI, qG, qy, implies_true, ↓QW, XR, XT, pI_leq, ↓QN, Qw, Qg, QZ, Xj, ↓qc, qb]
  apply hK; clear hK K
  refine qU ?_
  refine qO _ (Sub.refl _) (Qd (Qe)) ?_
  simp +decide only [Slots.get, if_true, and_true, QD]
  unfold okB
  congr 1
  rw [Bool.eq_iff_iff]
  simp only [Bool.and_eq_true, decide_eq_true_eq]
  omega
theorem c_all (w₀ : World) (h : AHeap) (s : Str) (hl : s.length ≤ 4611686018427387904) : ACall Tryz.prog w₀ 68 [.str s, .func 69 []] h (fun v h' => v = .bool (s.all okB) ∧ h' = h) := by
  refine qY (n := 18) (rs := [.tmp 4]) Tryz.func68 rfl rfl rfl rfl (Nat.le_of_ble_eq_true rfl) ?_
  simp only [Qf]
  refine awp_rseq [0, 1] (by rfl) fun K hK => ?_
  simp +decide only [qa, ev, qK, qH, putD, Slots.put, Slots.keep, if_true, if_false, true_and, ↓qc, qb]
  apply hK; clear hK K
  refine qN ?_
  refine awp_rseq [0, 1, 7, 8] (by rfl) fun K hK => ?_
  simp +decide only [qa, ev, qK, qH, putD, Slots.put, Slots.get, Slots.keep, if_true, if_false, true_and, ↓qg, qd, ↓Xw, QH, Zk Tryz.underlying9]
  apply hK; clear hK K
  refine Qt ?_
  refine XW [0, 1, 7, 8] (fun i : Nat => [(0, .str s), (1, .func 69 []), (7, .int .i64 s.length), (8, .int .i64 i)]) (fun i : Nat => h) (fun i : Nat => i ≤ s.length ∧ (s.drop i).all okB = s.all okB) (fun i : Nat => s.length - i) 0 rfl (Sub.refl _) ⟨Nat.zero_le _, rfl⟩ ?_
  rintro i ⟨hi, hg⟩
  refine awp_rseq [0, 1, 7, 8, 9] (by rfl) fun K hK => ?_
  simp +decide only [qa, ev, putD, Slots.put, Slots.get, Slots.keep, if_true, if_false, true_and, ↓qw, qh, qP, cond_false, qm, pI_lss]
  apply hK; clear hK K
  refine qN (qM (b := _) rfl (fun hb1 => ?_) (fun hb1 => ?_))
  · try simp only [decide_eq_true_eq] at hb1
    have hi' : i < s.length := by omega
    have hd : s.drop i = s.getD i 0 :: s.drop (i + 1) := by rw [List.drop_eq_getElem_cons hi']; simp [List.getD, hi']
    rw [hd, List.all_cons] at hg
    refine qZ ?_
    change Awp _ _ _ _ _ _ _
    refine qN ?_
    refine Qt ?_
    refine awp_rseq [0, 1, 5, 7, 8] (by rfl) fun K hK => ?_
    simp +decide only [qa, ev, putD, Slots.put, Slots.get, Slots.keep, if_true, if_false, true_and, ↓qg, qd, ↓qc, qb]
    apply hK; clear hK K
    refine awp_rseq [0, 1, 7, 8, 16] (by rfl) fun K hK => ?_
    simp +decide only [ev, putD, Slots.put, Slots.get, if_true, if_false, true_and, ↓qg, qd, ↓ap_index, pop_index, pIndex_str Tryz.underlying9, Int.toNat_natCast]
    repeat (with_reducible refine And.intro ?_ ?_; · first | trivial | omega | (intro hg; simp only [Bool.and_eq_true, Bool.or_eq_true, Bool.not_eq_true', Bool.and_eq_false_iff, Bool.or_eq_false_iff, Bool.not_eq_false', decide_eq_true_eq, decide_eq_false_iff_not, XI] at hg; omega) )
    refine qL (V := .bool (okB (s.getD i 0))) (by rfl) (by rfl) (c_prt1 w₀ _ _) ?_
    simp +decide only [qa, ev, putD, Slots.put, Slots.get, Slots.keep, if_true, if_false, true_and, ↓ap_unOp, pop_unOp, pU_not]
    apply hK; clear hK K
    refine qM (b := _) rfl (fun hb2 => ?_) (fun hb2 => ?_)
    · try simp only [Bool.not_eq_true'] at hb2
      refine awp_rseq [4] (by rfl) fun K hK => ?_
      simp +decide only [qa, ev, qK, qH, putD, Slots.put, Slots.keep, if_true, if_false, true_and, ↓qc, qb]
      apply hK; clear hK K
      refine qU ?_
      try simp only [Ql, QA]
      refine qO _ (Sub.refl _) (Qd (Qe)) ?_
      simp +decide only [Slots.get, if_true, and_true, QD]
      rw [← hg, hb2, Bool.false_and]
    · try simp only [Bool.not_eq_false'] at hb2
      refine qZ ?_
      change Awp _ _ _ _ _ _ _
      refine Xl [0, 1, 7, 8] (by rfl) ?_
      simp +decide only [qa, ev, qK, qH, putD, Slots.put, Slots.get, Slots.keep, if_true, if_false, true_and, ↓qw, qh, qz, cond_false, qm, Xk, ↓qg, qd]
      try simp (disch := omega) only [wrap_i64]
      try simp only [qR]
      refine ⟨i + 1, rfl, Sub.refl _, ⟨hi', ?_⟩, by omega⟩
      rw [← hg, hb2, Bool.true_and]
  · try simp only [decide_eq_false_iff_not] at hb1
    refine Ze ?_
    change Awp _ _ _ _ _ _ _
    refine awp_rseq [4] (by rfl) fun K hK => ?_
    simp +decide only [qa, ev, qK, qH, putD, Slots.put, Slots.keep, if_true, if_false, true_and, ↓qc, qb]
    apply hK; clear hK K
    refine qU ?_
    refine qO _ (Sub.refl _) (Qd (Qe)) ?_
    simp +decide only [Slots.get, if_true, and_true, QD]
    rw [← hg, List.drop_of_length_le (by omega)]
    rfl
theorem c_printable (w₀ : World) (h : AHeap) (s : Str) (hl : s.length ≤ 4611686018427387904) : ACall Tryz.prog w₀ 42 [.str s] h (fun v h' => v = .bool (s.all okB) ∧ h' = h) := by
  refine qY (n := 5) (rs := [.tmp 2]) Tryz.func42 rfl rfl rfl rfl (Nat.le_of_ble_eq_true rfl) ?_
  simp only [Qf]
  refine awp_rseq [0] (by rfl) fun K hK => ?_
  simp +decide only [qa, ev, qK, qH, putD, Slots.put, Slots.keep, if_true, if_false, true_and, ↓qc, qb]
  apply hK; clear hK K
  refine awp_rseq [2] (by rfl) fun K hK => ?_
  simp +decide only [ev, putD, Slots.put, Slots.get, if_true, if_false, true_and, ↓qg, qd]
  refine qL (V := .bool (s.all okB)) (by rfl) (by rfl) (c_all w₀ _ s hl) ?_
  simp +decide only [qa, ev, putD, Slots.put, Slots.get, Slots.keep, if_true, if_false, true_and, ↓qc, qb]
  apply hK; clear hK K
  refine qU ?_
  refine qO _ (Sub.refl _) (Qd (Qe)) ?_
  simp +decide only [Slots.get, if_true, and_true, QD]
  all_goals first | rfl | exact ⟨rfl, rfl⟩ | (simp +decide only [if_true, if_false, *]; done) | (trace_state; fail)
end Go.Proofs.YtmadddihphkmoaaGreatDoor

/-
  Contracts: the writer of the package columns.
  Conditions: none.
-/
namespace Go.Proofs.YtmadddihphkmoaaGreatDoor
open Go.AM
open Go.Proofs
open Go.Col
set_option maxRecDepth 100000

theorem bldT_writer : BldT 108 3 := ⟨by kernel_rfl, by kernel_rfl, by omega⟩
theorem bldH_rest {h : AHeap} {k : Nat} {rest rest' : List AVal} {e : TypeId} {b : Bld} (hb : b.ok e h k) : (bldH h k rest b).set k ⟨b.head k :: b.slice :: rest', 0⟩ = bldH h k rest' b := by
  cases hbuf : b.buf with
  | none =>
    rw [bldH_nil hbuf, Bld.slice_nil hbuf, AHeap.set_set, bldH_nil hbuf]
  | some q =>
    obtain ⟨h1, h2, h3, h4⟩ := (Bld.ok_some hbuf).1 hb
    rw [bldH_some hbuf, Bld.slice_some hbuf, bldH_some hbuf, AHeap.set_comm _ _ _ h1.symm, AHeap.set_set]
theorem nDigits_le : ∀ (k u : Nat), 1 ≤ k → u < 10 ^ k → Lib.nDigits u ≤ k
  | 0, _, h, _ => by omega
  | 1, u, _, h => by rw [Lib.nDigits_small (by omega)]; exact Nat.le_refl _
  | k + 2, u, _, h => by
    by_cases h10 : u < 10
    · rw [Lib.nDigits_small h10]; omega
    · rw [Lib.nDigits_big h10]
      have := nDigits_le (k + 1) (u / 10) (by omega) (by rw [Nat.pow_succ] at h; omega)
      omega
theorem digs_len (n : Nat) : (digs (n % 1000000)).length ≤ 6 := by
  unfold digs
  rw [Lib.decDigits_length]
  exact nDigits_le 6 _ (by omega) (by omega)
theorem outE_len (n col : Nat) (mark text : Str) : (outE n mark col text).length = 7 + mark.length + (col - 8) + text.length := by
  have := digs_len n
  unfold outE sp
  simp only [List.length_append, List.length_replicate, List.length_cons, List.length_nil]
  omega
theorem c_line (w₀ : World) (ht10 : Tab10 w₀) (h : AHeap) (k : Nat) (n : Nat) (st : Bld) (ht : tyOf k = some 108) (hk : h k = none) (hst : st.ok 5 h k) (mark : Str) (col : Nat) (text : Str) (hn : n ≤ 1099511627776) (hm : mark.length ≤ 10) (hc : 8 ≤ col) (hc2 : col ≤ 100) (htx : text.length ≤ 1099511627776) (hb : st.bytes.length ≤ 1099511627776) :
    ACall Tryz.prog w₀ 71 [.ptr (.own k) 0, .str mark, .int .i64 col, .str text] (bldH h k [.int .i64 n] st)
      (fun v h' => v = .tuple [] ∧ ∃ st' : Bld, st'.ok 5 h k ∧ st'.bytes = st.bytes ++ outE (n + 1) mark col text ∧ h' = bldH h k [.int .i64 (n + 1 : Nat)] st') := by
  have hhead := bldH_head (rest := [.int .i64 n]) hst
  have hhead1 := bldH_head (rest := [.int .i64 (n + 1 : Nat)]) hst
  have r0 := fun o => Xd w₀ hhead o
  have r1 := fun o => Xd w₀ hhead1 o
  have hdl := digs_len (n + 1)
  have hsl : (sp (col - 8)).length = col - 8 := by simp [sp]
  refine qY (n := 41) (rs := []) Tryz.func71 rfl rfl rfl rfl (Nat.le_of_ble_eq_true rfl) ?_
  simp only [Qf]
  refine awp_rseq [0, 1, 2, 3] (by rfl) fun K hK => ?_
  simp +decide only [ev, qK, qH, putD, Slots.put, Slots.get, if_true, if_false, true_and, ↓qg, qd, ↓QC, Qc, QI, ↓qF, qo, fa108_1, ↓qJ, Qb, qD ag3, ↓qw, qh, qz, cond_false, qm, Xk, List.getD_cons_zero, List.getD_cons_succ, Nat.zero_add, Nat.reduceAdd, qj, r0]
  try simp (disch := omega) only [wrap_i64]
  refine qp (v := .int .i64 (n + 1 : Nat)) (by rfl) (by rfl) hhead sz3 (by rfl) (by rfl) (by simp []) (Nat.zero_le _) (by rfl) ?_
  simp only [setAt, AVal.cells, List.set_cons_zero, List.set_cons_succ]
  rw [bldH_rest hst]
  simp +decide only [qa, putD, Slots.keep, if_true, if_false]
  apply hK; clear hK K
  refine awp_rseq [0, 1, 2, 3, 8] (by rfl) fun K hK => ?_
  simp +decide only [ev, qK, qH, putD, Slots.put, Slots.get, if_true, if_false, true_and, ↓qg, qd, ↓QC, Qc, QI, ↓qF, qo, fa108_1, ↓qJ, Qb, qD ag3, ↓qw, qh, qz, cond_false, qm, pI_rem, List.getD_cons_zero, List.getD_cons_succ, Nat.zero_add, qj, r1]
  rw [show ((n + 1 : Nat) : Int).tmod 1000000 = (((n + 1) % 1000000 : Nat) : Int) by rw [Int.tmod_eq_emod_of_nonneg (by omega)]; omega]
  refine qL (V := .str (digs ((n + 1) % 1000000))) (by rfl) (by rfl) ((c_itoa w₀ ht10 _ _ (by omega) (by omega)).val (by rw [Lib.itoa_nonneg]; rfl)) ?_
  simp +decide only [qa, ev, putD, Slots.put, Slots.get, Slots.keep, if_true, if_false, true_and, ↓qc, qb]
  apply hK; clear hK K
  refine awp_draw_anyT 18 mixed (by kernel_rfl) (by rfl) ?_
  simp only [List.take_succ_cons, List.take_zero, List.drop_succ_cons, List.drop_zero]
  simp +decide only [ev, qK, qH, putD, Slots.put, Slots.get, if_true, if_false, true_and, ↓vp_move, qd, ↓vp_nilCheck, Qc, QI, ↓vp_fieldAddr, qo, fa108_0, ↓vp_len, QH, Zk Tryz.underlying9, ↓vp_binOp, qh, qP, cond_false, qm, pI_sub, Nat.zero_add]
  try simp (disch := omega) only [wrap_i64]
  rw [show (6 : Int) - ((digs ((n + 1) % 1000000)).length : Int) = ((6 - (digs ((n + 1) % 1000000)).length : Nat) : Int) by omega]
  refine vOps_callV (V := .str (List.replicate (6 - (digs ((n + 1) % 1000000)).length) 48)) (by rfl) (by rfl) (c_repeat w₀ _ 48 _ (by omega)) ?_
  simp +decide only [ev, qK, qH, putD, Slots.put, Slots.get, if_true, if_false, true_and, ↓vp_move, qd, ↓vp_binOp, qh, qP, cond_false, XN, pS_add, qz, qm, pI_sub]
  try simp (disch := omega) only [wrap_i64]
  repeat (with_reducible refine And.intro ?_ ?_; · first | trivial | omega | (intro hg; simp only [Bool.and_eq_true, Bool.or_eq_true, Bool.not_eq_true', Bool.and_eq_false_iff, Bool.or_eq_false_iff, Bool.not_eq_false', decide_eq_true_eq, decide_eq_false_iff_not, XI] at hg; omega) | (simp only [List.length_append, List.length_replicate]; omega))
  rw [show (col : Int) - 8 = ((col - 8 : Nat) : Int) by omega]
  refine vOps_callV (V := .str (sp (col - 8))) (by rfl) (by rfl) (c_repeat w₀ _ 32 _ (by omega)) ?_
  simp +decide only [vOps_nil, ev, qK, qH, putD, Slots.put, Slots.get, if_true, if_false, true_and, ↓vp_binOp, qh, qP, cond_false, XN, pS_add, ↓vp_move, qd, isNilC_str]
  repeat (with_reducible refine And.intro ?_ ?_; · first | trivial | omega | (intro hg; simp only [Bool.and_eq_true, Bool.or_eq_true, Bool.not_eq_true', Bool.and_eq_false_iff, Bool.or_eq_false_iff, Bool.not_eq_false', decide_eq_true_eq, decide_eq_false_iff_not, XI] at hg; omega) | (simp only [List.length_append, List.length_replicate, List.length_cons, List.length_nil]; omega))
  refine Xp (by rfl) (by rfl) (c_WriteString w₀ h k [.int .i64 (n + 1 : Nat)] st 108 bldT_writer ht hk hst _ (by have := outE_len (n + 1) col mark text; unfold outE at this; omega)) fun x2q18 h2q18 hx2q18 => ?_
  obtain ⟨rfl, st', s1, s2, rfl⟩ := hx2q18
  simp +decide only [qa, putD, Slots.put, if_false]
  refine retA_end _ (Sub.refl _) (Qe) ?_
  simp +decide only [true_and, resOf_nil]
  exact ⟨st', s1, s2, rfl⟩

theorem textE_short {fuel col k : Nat} {mark out s : Str} {q : Bool} (h : s.length ≤ 73 - col - (if q = true then 1 else 0)) : textE (fuel + 1) col mark q k out s = (k + 1, out ++ outE (k + 1) mark col ((if q = true then [34] else []) ++ s)) := by
  rw [textE]
  rw [if_pos h]
theorem textE_space {fuel col k : Nat} {mark out s : Str} {q : Bool} (h : ¬ s.length ≤ 73 - col - (if q = true then 1 else 0)) (h2 : 0 < Xn s (73 - col - (if q = true then 1 else 0)) q) :
    textE (fuel + 1) col mark q k out s = textE fuel 12 [32] false (k + 1) (out ++ outE (k + 1) mark col ((if q = true then [34] else []) ++ s.take (Xn s (73 - col - (if q = true then 1 else 0)) q))) (Xr (s.drop (Xn s (73 - col - (if q = true then 1 else 0)) q))) := by
  rw [textE]
  rw [if_neg h, if_pos h2]
theorem textE_cut {fuel col k : Nat} {mark out s : Str} {q : Bool} (h : ¬ s.length ≤ 73 - col - (if q = true then 1 else 0)) (h2 : ¬ 0 < Xn s (73 - col - (if q = true then 1 else 0)) q) :
    textE (fuel + 1) col mark q k out s = textE fuel 12 [45] (q != Qy (s.take (73 - col - (if q = true then 1 else 0)))) (k + 1) (out ++ outE (k + 1) mark col ((if q = true then [34] else []) ++ s.take (73 - col - (if q = true then 1 else 0)))) (s.drop (73 - col - (if q = true then 1 else 0))) := by
  rw [textE]
  rw [if_neg h, if_neg h2]
theorem spaceGo_le : ∀ (s : Str) (i n : Nat) (q : Bool) (f : Nat), f ≤ n → f < i + s.length ∨ f = 0 → spaceGo s i n q f ≤ n ∧ (spaceGo s i n q f < i + s.length ∨ spaceGo s i n q f = 0)
  | [], i, n, q, f, h1, h2 => ⟨h1, h2⟩
  | b :: s, i, n, q, f, h1, h2 => by
    have hf : ∀ (c : Prop) [Decidable c], f ≤ n → i ≤ n → (if c then i else f) ≤ n := fun c _ a b => by by_cases hc : c; rw [if_pos hc]; exact b; rw [if_neg hc]; exact a
    unfold spaceGo
    split
    · exact ⟨h1, h2⟩
    · have := spaceGo_le s (i + 1) n (if b = 34 then !q else q) (if b = 32 ∧ (if b = 34 then !q else q) = false ∧ 0 < i then i else f) (hf _ h1 (by omega)) (by
        simp only [List.length_cons] at h2
        by_cases hc : b = 32 ∧ (if b = 34 then !q else q) = false ∧ 0 < i
        · rw [if_pos hc]; omega
        · rw [if_neg hc]; omega)
      simp only [List.length_cons]
      omega
theorem spaceE_le (s : Str) (n : Nat) (q : Bool) : Xn s n q ≤ n ∧ Xn s n q ≤ s.length := by
  have := spaceGo_le s 0 n q 0 (by omega) (.inr rfl)
  unfold Xn
  omega
structure TxG where
  fuel : Nat
  col : Nat
  mark : Str
  q : Bool
  n : Nat
  st : Bld
  s : Str
structure TxOk (h : AHeap) (k : Nat) (R : Nat × Str) (M : Nat) (g : TxG) : Prop where
  fuel : g.s.length < g.fuel
  col : 8 ≤ g.col ∧ g.col ≤ 12
  mark : g.mark.length = 1
  ok : g.st.ok 5 h k
  eq : textE g.fuel g.col g.mark g.q g.n g.st.bytes g.s = R
  n : g.n + g.s.length ≤ M
  bytes : g.st.bytes.length + 100 * (g.s.length + 1) ≤ 1099511627776
theorem c_text (w₀ : World) (ht10 : Tab10 w₀) (h : AHeap) (k : Nat) (n : Nat) (st : Bld) (ht : tyOf k = some 108) (hk : h k = none) (hst : st.ok 5 h k) (col : Nat) (s : Str) (hc : 8 ≤ col) (hc2 : col ≤ 12) (hn : n + s.length ≤ 1099511627776) (hb : st.bytes.length + 100 * (s.length + 1) ≤ 1099511627776) :
    ACall Tryz.prog w₀ 44 [.ptr (.own k) 0, .int .i64 col, .str s] (bldH h k [.int .i64 n] st)
      (fun v h' => v = .tuple [] ∧ ∃ st' : Bld, st'.ok 5 h k ∧ st'.bytes = (textE (s.length + 1) col [32] false n st.bytes s).2 ∧ h' = bldH h k [.int .i64 (textE (s.length + 1) col [32] false n st.bytes s).1] st') := by
  obtain ⟨R, hR⟩ : ∃ R, R = textE (s.length + 1) col [32] false n st.bytes s := ⟨_, rfl⟩
  rw [← hR]
  refine qY (n := 65) (rs := []) Tryz.func44 rfl rfl rfl rfl (Nat.le_of_ble_eq_true rfl) ?_
  simp only [Qf]
  refine awp_rseq [0, 1, 2, 6, 7] (by rfl) fun K hK => ?_
  simp +decide only [qa, ev, qK, qH, putD, Slots.put, Slots.keep, if_true, if_false, true_and, ↓qc, qb, Nat.zero_add, Nat.reduceAdd]
  apply hK; clear hK K
  refine Qt ?_
  refine XW [0, 1, 2, 6, 7] (fun g : TxG => [(0, .ptr (.own k) 0), (1, .int .i64 g.col), (2, .str g.s), (6, .str g.mark), (7, .bool g.q)]) (fun g : TxG => bldH h k [.int .i64 g.n] g.st) (fun g : TxG => TxOk h k R 1099511627776 g) (fun g : TxG => g.s.length) ⟨s.length + 1, col, [32], false, n, st, s⟩ (by rfl) (Sub.refl _) ⟨by simp, ⟨hc, hc2⟩, rfl, hst, hR.symm, hn, hb⟩ ?_
  rintro ⟨fuel, cl, mk, q, m, sb, t⟩ ⟨g1, g2, g3, g4, g5, g6, g7⟩
  simp only at g1 g2 g3 g4 g5 g6 g7 ⊢
  obtain ⟨f, rfl⟩ : ∃ f, fuel = f + 1 := ⟨fuel - 1, by omega⟩
  obtain ⟨nn, hnn⟩ : ∃ nn, nn = 73 - cl - (if q = true then 1 else 0) := ⟨_, rfl⟩
  obtain ⟨ld, hld⟩ : ∃ ld : Str, ld = if q = true then [34] else [] := ⟨_, rfl⟩
  have hnn2 : 60 ≤ nn ∧ nn ≤ 65 := by rw [hnn]; split <;> omega
  have hld2 : ld.length ≤ 1 := by rw [hld]; split <;> simp
  refine Qt ?_
  refine awp_rseq [0, 1, 2, 6, 7, 8] (by rfl) fun K hK => ?_
  simp +decide only [qa, ev, qK, qH, putD, Slots.put, Slots.get, Slots.keep, if_true, if_false, true_and, ↓qg, qd, ↓qw, qh, qP, cond_false, qm, pI_sub, qz, Xk, ↓qc, qb]
  try simp (disch := omega) only [wrap_i64]
  apply hK; clear hK K
  refine awp_rseq [0, 1, 2, 6, 7, 8, 9] (by rfl) fun K hK => ?_
  simp +decide only [qa, ev, qK, qH, putD, Slots.put, Slots.keep, if_true, if_false, true_and, ↓qc, qb]
  apply hK; clear hK K
  refine qN ?_
  refine awp_rseq [0, 1, 2, 6, 7, 8, 9, 14] (by rfl) fun K hK => ?_
  simp +decide only [qa, ev, putD, Slots.put, Slots.get, Slots.keep, if_true, if_false, true_and, ↓qg, qd]
  apply hK; clear hK K
  refine awp_joinT [0, 1, 2, 6, 7, 8, 9] (fun z : Unit => [(0, .ptr (.own k) 0), (1, .int .i64 cl), (2, .str t), (6, .str mk), (7, .bool q), (8, .int .i64 nn), (9, .str ld)]) (fun z : Unit => bldH h k [.int .i64 m] sb) (fun z : Unit => mk.length = 1) ?_ ?_
  · refine qM (b := _) rfl (fun hb1 => ?_) (fun hb1 => ?_)
    · skip
      refine awp_rseq [0, 1, 2, 6, 7, 8, 9] (by rfl) fun K hK => ?_
      simp +decide only [qa, ev, qK, qH, putD, Slots.put, Slots.keep, if_true, if_false, true_and, ↓qc, qb]
      apply hK; clear hK K
      refine Xl [0, 1, 2, 6, 7, 8, 9] (by rfl) ?_
      simp +decide only [qa, ev, qK, qH, putD, Slots.put, Slots.get, Slots.keep, if_true, if_false, true_and, ↓qg, qd, ↓qw, qh, qz, cond_false, qm, pI_sub, ↓qc, qb]
      try simp (disch := omega) only [wrap_i64]
      try simp only [qR]
      refine ⟨(), ?_, Sub.refl _, g3⟩
      rw [hb1] at hnn hld
      rw [hnn, hld]
      (rw [show (72 : Int) - (cl : Int) + 1 - 1 = ((73 - cl - 1 : Nat) : Int) by omega]; rfl)
    · skip
      refine qZ ?_
      try simp only [qR]
      refine ⟨(), ?_, Sub.refl _, g3⟩
      rw [hb1] at hnn hld
      rw [hnn, hld]
      (rw [show (72 : Int) - (cl : Int) + 1 = ((73 - cl - 0 : Nat) : Int) by omega]; rfl)
  · intro _ _
    refine qN ?_
    refine awp_rseq [0, 1, 2, 6, 7, 8, 9, 20] (by rfl) fun K hK => ?_
    simp +decide only [qa, ev, putD, Slots.put, Slots.get, Slots.keep, if_true, if_false, true_and, ↓qg, qd, ↓Xw, QH, Zk Tryz.underlying9, ↓qw, qh, qP, cond_false, qm, pI_leq]
    apply hK; clear hK K
    refine qM (b := _) rfl (fun hb2 => ?_) (fun hb2 => ?_)
    · try simp only [decide_eq_true_eq] at hb2
      have hsh : t.length ≤ nn := by omega
      refine awp_rseq [] (by rfl) fun K hK => ?_
      simp +decide only [ev, putD, Slots.put, Slots.get, if_true, if_false, true_and, ↓qg, qd, ↓qw, qh, qP, cond_false, XN, pS_add]
      repeat (with_reducible refine And.intro ?_ ?_; · first | trivial | omega | (intro hg; simp only [Bool.and_eq_true, Bool.or_eq_true, Bool.not_eq_true', Bool.and_eq_false_iff, Bool.or_eq_false_iff, Bool.not_eq_false', decide_eq_true_eq, decide_eq_false_iff_not, XI] at hg; omega) | (simp only [List.length_append, List.length_map, List.length_range, List.length_replicate, List.length_take, List.length_drop, List.length_cons, List.length_nil, List.length_set, List.length_reverse]; omega))
      refine Xp (by rfl) (by rfl) (c_line w₀ ht10 h k m sb ht hk g4 mk cl (ld ++ t) (by omega) (by omega) g2.1 (by omega) (by simp; omega) (by omega)) fun x7q6 h7q6 hx7q6 => ?_
      obtain ⟨rfl, st', s1, s2, rfl⟩ := hx7q6
      rw [textE_short (by rw [← hnn]; exact hsh), ← hld] at g5
      simp +decide only [qa, putD, Slots.put, Slots.keep, if_false]
      apply hK; clear hK K
      refine qU ?_
      try simp only [Ql, QA]
      refine qO _ (Sub.refl _) (Qe) ?_
      simp +decide only [true_and, resOf_nil]
      exact ⟨st', s1, by rw [s2, ← g5], by rw [← g5]⟩
    · try simp only [decide_eq_false_iff_not] at hb2
      have hsh : ¬ t.length ≤ nn := by omega
      obtain ⟨sl1, sl2⟩ := spaceE_le t nn q
      refine qZ ?_
      change Awp _ _ _ _ _ _ _
      refine qN ?_
      refine awp_rseq [0, 1, 2, 6, 7, 8, 9, 10] (by rfl) fun K hK => ?_
      simp +decide only [ev, putD, Slots.put, Slots.get, if_true, if_false, true_and, ↓qg, qd]
      refine qL (V := .int .i64 (Xn t nn q)) (by rfl) (by rfl) (c_space w₀ _ t nn q (by omega) (by omega)) ?_
      simp +decide only [qa, ev, putD, Slots.put, Slots.get, Slots.keep, if_true, if_false, true_and, ↓qc, qb]
      apply hK; clear hK K
      refine awp_rseq [0, 1, 2, 6, 7, 8, 9, 10, 33] (by rfl) fun K hK => ?_
      simp +decide only [qa, ev, qK, qH, putD, Slots.put, Slots.get, Slots.keep, if_true, if_false, true_and, ↓qg, qd, ↓qw, qh, qz, cond_false, qm, pI_gtr]
      apply hK; clear hK K
      refine qM (b := _) rfl (fun hb3 => ?_) (fun hb3 => ?_)
      · try simp only [decide_eq_true_eq] at hb3
        have hsp : 0 < Xn t nn q := by omega
        have hdr : (t.drop ((Xn t nn q : Nat) : Int).toNat).take ((t.length : Int).toNat - ((Xn t nn q : Nat) : Int).toNat) = t.drop (Xn t nn q) := by
          rw [Int.toNat_natCast, Int.toNat_natCast, List.take_of_length_le (by simp)]
        have htl := trimL_le (t.drop (Xn t nn q))
        have htl2 : (t.drop (Xn t nn q)).length = t.length - Xn t nn q := by simp
        rw [hnn] at hsp
        rw [textE_space (by rw [← hnn]; exact hsh) hsp, ← hnn, ← hld] at g5
        rw [← hnn] at hsp
        refine awp_rseq [0, 2, 10] (by rfl) fun K hK => ?_
        simp +decide only [ev, putD, Slots.put, Slots.get, if_true, if_false, true_and, ↓qg, qd, ↓ap_slice, pop_slice, evO, pSliceS_0i Tryz.underlying9, pSliceS, bndA_none, bndA_int, ↓qw, qh, qP, cond_false, XN, pS_add]
        repeat (with_reducible refine And.intro ?_ ?_; · first | trivial | omega | (intro hg; simp only [Bool.and_eq_true, Bool.or_eq_true, Bool.not_eq_true', Bool.and_eq_false_iff, Bool.or_eq_false_iff, Bool.not_eq_false', decide_eq_true_eq, decide_eq_false_iff_not, XI] at hg; omega) | (simp only [List.length_take, List.length_drop]; omega))
        refine Xp (by rfl) (by rfl) (c_line w₀ ht10 h k m sb ht hk g4 mk cl (ld ++ t.take (Xn t nn q)) (by omega) (by omega) g2.1 (by omega) (by simp; omega) (by omega)) fun x10q8 h10q8 hx10q8 => ?_
        obtain ⟨-, st', s1, s2, rfl⟩ := hx10q8
        have hol := outE_len (m + 1) cl mk (ld ++ t.take (Xn t nn q))
        have hlt : (Xr (t.drop (Xn t nn q))).length < t.length := by omega
        have hg : TxOk h k R 1099511627776 ⟨f, 12, [32], false, m + 1, st', Xr (t.drop (Xn t nn q))⟩ := by
          refine ⟨by simp only; omega, ⟨by simp only; omega, by simp only; omega⟩, rfl, s1, by rw [s2]; exact g5, by simp only; omega, ?_⟩
          simp only [s2, List.length_append, List.length_take] at hol ⊢
          omega
        simp +decide only [qa, putD, Slots.put, Slots.keep, if_true, if_false]
        apply hK; clear hK K
        refine Xl [0, 2, 6, 7] (by rfl) ?_
        simp +decide only [ev, putD, Slots.put, Slots.get, if_true, if_false, true_and, ↓qg, qd, ↓ap_slice, pop_slice, evO, pSliceS_i0 Tryz.underlying9, pSliceS, bndA_none, bndA_int, hdr]
        repeat (with_reducible refine And.intro ?_ ?_; · first | trivial | omega | (intro hg; simp only [Bool.and_eq_true, Bool.or_eq_true, Bool.not_eq_true', Bool.and_eq_false_iff, Bool.or_eq_false_iff, Bool.not_eq_false', decide_eq_true_eq, decide_eq_false_iff_not, XI] at hg; omega) | (simp only [List.length_append, List.length_map, List.length_range, List.length_replicate, List.length_take, List.length_drop, List.length_cons, List.length_nil, List.length_set, List.length_reverse]; omega))
        refine qL (V := .str (Xr (t.drop (Xn t nn q)))) (by rfl) (by rfl) (c_trimL w₀ _ _) ?_
        simp +decide only [qa, ev, qK, qH, putD, Slots.put, Slots.get, Slots.keep, if_true, if_false, true_and, ↓qc, qb]
        change Awp _ _ _ _ _ _ _
        refine Xl [0, 1, 2, 6, 7] (by rfl) ?_
        simp +decide only [qa, ev, qK, qH, putD, Slots.put, Slots.keep, if_true, if_false, true_and, ↓qc, qb]
        try simp only [qR, inBlockA_normal]
        first
        | exact ⟨⟨f, 12, [32], false, m + 1, st', Xr (t.drop (Xn t nn q))⟩, rfl, Sub.refl _, hg, hlt⟩
        | exact ⟨⟨f, 12, [45], q != Qy (t.take nn), m + 1, st', t.drop nn⟩, rfl, Sub.refl _, hg, hlt⟩
      · try simp only [decide_eq_false_iff_not] at hb3
        have hsp : ¬ 0 < Xn t nn q := by omega
        have hdr : (t.drop (nn : Int).toNat).take ((t.length : Int).toNat - (nn : Int).toNat) = t.drop nn := by
          rw [Int.toNat_natCast, Int.toNat_natCast, List.take_of_length_le (by simp)]
        rw [hnn] at hsp
        rw [textE_cut (by rw [← hnn]; exact hsh) hsp, ← hnn, ← hld] at g5
        refine awp_rseq [0, 2, 7, 8] (by rfl) fun K hK => ?_
        simp +decide only [ev, putD, Slots.put, Slots.get, if_true, if_false, true_and, ↓qg, qd, ↓ap_slice, pop_slice, evO, pSliceS_0i Tryz.underlying9, pSliceS, bndA_none, bndA_int, ↓qw, qh, qP, cond_false, XN, pS_add]
        repeat (with_reducible refine And.intro ?_ ?_; · first | trivial | omega | (intro hg; simp only [Bool.and_eq_true, Bool.or_eq_true, Bool.not_eq_true', Bool.and_eq_false_iff, Bool.or_eq_false_iff, Bool.not_eq_false', decide_eq_true_eq, decide_eq_false_iff_not, XI] at hg; omega) | (simp only [List.length_take, List.length_drop]; omega))
        refine Xp (by rfl) (by rfl) (c_line w₀ ht10 h k m sb ht hk g4 mk cl (ld ++ t.take nn) (by omega) (by omega) g2.1 (by omega) (by simp; omega) (by omega)) fun x12q8 h12q8 hx12q8 => ?_
        obtain ⟨-, st', s1, s2, rfl⟩ := hx12q8
        have hol := outE_len (m + 1) cl mk (ld ++ t.take nn)
        have hlt : (t.drop nn).length < t.length := by simp; omega
        have hg : TxOk h k R 1099511627776 ⟨f, 12, [45], q != Qy (t.take nn), m + 1, st', t.drop nn⟩ := by
          refine ⟨by simp only [List.length_drop]; omega, ⟨by simp only; omega, by simp only; omega⟩, rfl, s1, by rw [s2]; exact g5, by simp only [List.length_drop]; omega, ?_⟩
          simp only [s2, List.length_append, List.length_take, List.length_drop] at hol ⊢
          omega
        simp +decide only [qa, putD, Slots.put, Slots.keep, if_true, if_false]
        apply hK; clear hK K
        refine awp_rseq [0, 2, 6, 7, 8] (by rfl) fun K hK => ?_
        simp +decide only [ev, putD, Slots.put, Slots.get, if_true, if_false, true_and, ↓qg, qd, ↓ap_slice, pop_slice, evO, pSliceS_0i Tryz.underlying9, pSliceS, bndA_none, bndA_int]
        repeat (with_reducible refine And.intro ?_ ?_; · first | trivial | omega | (intro hg; simp only [Bool.and_eq_true, Bool.or_eq_true, Bool.not_eq_true', Bool.and_eq_false_iff, Bool.or_eq_false_iff, Bool.not_eq_false', decide_eq_true_eq, decide_eq_false_iff_not, XI] at hg; omega) | (simp only [List.length_append, List.length_map, List.length_range, List.length_replicate, List.length_take, List.length_drop, List.length_cons, List.length_nil, List.length_set, List.length_reverse]; omega))
        refine qL (V := .bool (Qy (t.take nn))) (by rfl) (by rfl) (c_open w₀ _ _ (by simp; omega)) ?_
        simp +decide only [qa, ev, qK, qH, putD, Slots.put, Slots.get, Slots.keep, if_true, if_false, true_and, ↓qw, qh, qP, cond_false, pBinX_bne, Tryz.underlying4, ↓qc, qb]
        apply hK; clear hK K
        refine Xl [0, 2, 6, 7] (by rfl) ?_
        simp +decide only [qa, ev, putD, Slots.put, Slots.get, Slots.keep, if_true, if_false, true_and, ↓qg, qd, ↓ap_slice, pop_slice, evO, pSliceS_i0 Tryz.underlying9, pSliceS, bndA_none, bndA_int, ↓qc, qb, hdr]
        repeat (with_reducible refine And.intro ?_ ?_; · first | trivial | omega | (intro hg; simp only [Bool.and_eq_true, Bool.or_eq_true, Bool.not_eq_true', Bool.and_eq_false_iff, Bool.or_eq_false_iff, Bool.not_eq_false', decide_eq_true_eq, decide_eq_false_iff_not, XI] at hg; omega) | (simp only [List.length_append, List.length_map, List.length_range, List.length_replicate, List.length_take, List.length_drop, List.length_cons, List.length_nil, List.length_set, List.length_reverse]; omega))
        change Awp _ _ _ _ _ _ _
        refine Xl [0, 1, 2, 6, 7] (by rfl) ?_
        simp +decide only [qa, ev, qK, qH, putD, Slots.put, Slots.keep, if_true, if_false, true_and, ↓qc, qb]
        try simp only [qR, inBlockA_normal]
        first
        | exact ⟨⟨f, 12, [32], false, m + 1, st', Xr (t.drop (Xn t nn q))⟩, rfl, Sub.refl _, hg, hlt⟩
        | exact ⟨⟨f, 12, [45], q != Qy (t.take nn), m + 1, st', t.drop nn⟩, rfl, Sub.refl _, hg, hlt⟩
end Go.Proofs.YtmadddihphkmoaaGreatDoor

/-
  Contracts: Len of strings.Builder; Write of the package columns.
  Conditions: none.
-/
namespace Go.Proofs.YtmadddihphkmoaaGreatDoor
open Go.AM
open Go.Proofs
open Go.Col
set_option maxRecDepth 100000

theorem Bld.slice_len {st : Bld} : st.slice = .nilSlice ∧ st.bytes = [] ∨ ∃ l o c, st.slice = .slice l o st.bytes.length c := by
  cases hb : st.buf with
  | none => exact .inl ⟨Bld.slice_nil hb, Bld.bytes_nil hb⟩
  | some q => exact .inr ⟨.own q.1, 0, .grow 1, by rw [Bld.slice_some (kb := q.1) (l := q.2) hb, Bld.bytes_some (kb := q.1) (l := q.2) hb]⟩
theorem c_bLen (w₀ : World) (h : AHeap) (k : Nat) (rest : List AVal) (st : Bld) (hst : st.ok 5 h k) :
    ACall Tryz.prog w₀ 40 [.ptr (.own k) 0] (bldH h k rest st) (fun v h' => v = .int .i64 st.bytes.length ∧ h' = bldH h k rest st) := by
  have hhead := bldH_head (rest := rest) hst
  have r1 : rd w₀ (bldH h k rest st) (.own k) 1 = st.slice := Xd w₀ hhead 1
  have hl : pLen Tryz.prog 97 st.slice = ⟨True, .int .i64 st.bytes.length⟩ := by
    rcases Bld.slice_len (st := st) with ⟨e1, e2⟩ | ⟨l, o, c, e⟩
    · rw [e1, e2]; exact pLen_nil Tryz.underlying97
    · rw [e]; exact XH Tryz.underlying97 _ _ _ _
  refine qY (n := 8) (rs := [.tmp 2]) Tryz.func40 rfl rfl rfl rfl (Nat.le_of_ble_eq_true rfl) ?_
  simp only [Qf]
  refine awp_rseq [0] (by rfl) fun K hK => ?_
  simp +decide only [qa, ev, qK, qH, putD, Slots.put, Slots.keep, if_true, if_false, true_and, ↓qc, qb]
  apply hK; clear hK K
  refine awp_rseq [2] (by rfl) fun K hK => ?_
  simp +decide only [qa, ev, putD, Slots.put, Slots.get, Slots.keep, if_true, if_false, true_and, ↓qg, qd, ↓QC, Qc, QI, ↓qF, qo, fa99_1, ↓qJ, Qb, qD ag97, ↓Xw, QH, ↓qc, qb, r1, Bld.slice_live, hl]
  apply hK; clear hK K
  refine qU ?_
  refine qO _ (Sub.refl _) (Qd (Qe)) ?_
  simp +decide only [Slots.get, if_true, and_true, QD]
  all_goals first | rfl | exact ⟨rfl, rfl⟩ | (simp +decide only [if_true, if_false, *]; done) | (trace_state; fail)
def lineC (l : Bool × Str) : List AVal := [.bool l.1, .str l.2]
theorem Sub.bldH_both {h h' : AHeap} {k : Nat} {rest : List AVal} {b : Bld} (hs : Sub h h') : Sub (bldH h k rest b) (bldH h' k rest b) := by
  cases hbuf : b.buf with
  | none => rw [bldH_nil hbuf, bldH_nil hbuf]; exact Sub.set_both hs _ _
  | some q => rw [bldH_some (kb := q.1) (l := q.2) hbuf, bldH_some (kb := q.1) (l := q.2) hbuf]; exact Sub.set_both (Sub.set_both hs _ _) _ _
theorem Bld.ok_lay {h : AHeap} {k : Nat} {rest : List AVal} {e : TypeId} {b : Bld} (hb : b.ok e h k) {j : Nat} (hj : bldH h k rest b j = none) (c : Blk) : b.ok e (h.set j c) k := by
  cases hbuf : b.buf with
  | none => exact Bld.ok_nil hbuf
  | some q =>
    obtain ⟨h1, h2, h3, h4⟩ := (Bld.ok_some hbuf).1 hb
    refine (Bld.ok_some hbuf).2 ⟨h1, ?_, h3, h4⟩
    rw [AHeap.set_ne _ _ (fun e => by rw [← e, bldH_buf hbuf] at hj; cases hj)]
    exact h2
theorem lineC_at {w₀ : World} {h : AHeap} {ls : List (Bool × Str)} {l : AM.Loc} {o : Nat} {cp : Cap} (hm : IsL w₀ h 2 (.slice l o ls.length cp) (ls.map lineC)) {i : Nat} (hi : i < ls.length) :
    rd w₀ h l (o + i * 2) = .bool (ls.getD i (false, [])).1 ∧ rd w₀ h l (o + i * 2 + 1) = .str (ls.getD i (false, [])).2 := by
  have he := hm.elem (i := i) (by rw [List.length_map]; exact hi)
  rw [getD_map (false, []) hi] at he
  simp only [qf, lineC, List.cons.injEq, and_true] at he
  exact he
theorem textE_n : ∀ (f col : Nat) (mark : Str) (q : Bool) (k : Nat) (out s : Str), (textE f col mark q k out s).1 ≤ k + f
  | 0, _, _, _, _, _, _ => Nat.le_refl _
  | f + 1, col, mark, q, k, out, s => by
    by_cases h : s.length ≤ 73 - col - (if q = true then 1 else 0)
    · rw [textE_short h]; show k + 1 ≤ k + (f + 1); omega
    · by_cases h2 : 0 < Xn s (73 - col - (if q = true then 1 else 0)) q
      · rw [textE_space h h2]
        have := textE_n f 12 [32] false (k + 1) (out ++ outE (k + 1) mark col ((if q = true then [34] else []) ++ s.take (Xn s (73 - col - (if q = true then 1 else 0)) q))) (Xr (s.drop (Xn s (73 - col - (if q = true then 1 else 0)) q)))
        omega
      · rw [textE_cut h h2]
        have := textE_n f 12 [45] (q != Qy (s.take (73 - col - (if q = true then 1 else 0)))) (k + 1) (out ++ outE (k + 1) mark col ((if q = true then [34] else []) ++ s.take (73 - col - (if q = true then 1 else 0)))) (s.drop (73 - col - (if q = true then 1 else 0)))
        omega
theorem right_parts (s : Str) : rightE s = (!decide (s = []) && s.all okB && !decide (s.getD 0 0 = 32) && !decide (s.getD (s.length - 1) 0 = 32) && !Qy s) := by
  unfold rightE
  by_cases hs : s = []
  · subst hs; rfl
  · have : s.getLast? = some (s.getD (s.length - 1) 0) := by
      rw [List.getLast?_eq_getElem?, List.getD_eq_getElem?_getD]
      have : s.length - 1 < s.length := by have := List.length_pos_iff.2 hs; omega
      rw [List.getElem?_eq_getElem this]
      rfl
    rw [this]
    simp only [Option.some.injEq]
/-- What Write answers behind the test: the lines' number so far, the output so far. -/
def writeGo : List (Bool × Str) → Nat → Str → Str × Int
  | [], _, out => (out, 0)
  | l :: r, n, out => if 1048576 < (textE (l.2.length + 1) (if l.1 = true then 8 else 12) [32] false n out l.2).2.length then ([], 3) else writeGo r (textE (l.2.length + 1) (if l.1 = true then 8 else 12) [32] false n out l.2).1 (textE (l.2.length + 1) (if l.1 = true then 8 else 12) [32] false n out l.2).2
def writeE (ls : List (Bool × Str)) : Str × Int := if (ls.all fun l => rightE l.2) = true then writeGo ls 0 [] else ([], 1)
theorem drop_getD {α : Type} (d : α) {l : List α} {i : Nat} (hi : i < l.length) : l.drop i = l.getD i d :: l.drop (i + 1) := by
  rw [List.drop_eq_getElem_cons hi]
  simp [List.getD, hi]
structure WrG where
  i : Nat
  n : Nat
  st : Bld
structure WrOk (ls : List (Bool × Str)) (h : AHeap) (k : Nat) (g : WrG) : Prop where
  i : g.i ≤ ls.length
  n : g.n ≤ g.i * 1000002
  ok : g.st.ok 5 h k
  bytes : g.st.bytes.length ≤ 1048576
  eq : writeGo (ls.drop g.i) g.n g.st.bytes = writeGo ls 0 []
theorem c_Write (w₀ : World) (ht10 : Tab10 w₀) (h : AHeap) (ls : List (Bool × Str)) (l : AM.Loc) (o : Nat) (cp : Cap) (hm : IsL w₀ h 2 (.slice l o ls.length cp) (ls.map lineC)) (hl : ls.length ≤ 1000) (ht : ∀ x ∈ ls, x.2.length ≤ 1000000) :
    ACall Tryz.prog w₀ 19 [.slice l o ls.length cp] h (fun v h' => v = .tuple [.str (writeE ls).1, .int .i64 (writeE ls).2] ∧ Sub h h') := by
  refine qY (n := 65) (rs := [.tmp 2, .tmp 3]) Tryz.func19 rfl rfl rfl rfl (Nat.le_of_ble_eq_true rfl) ?_
  simp only [Qf]
  refine awp_rseq [0] (by rfl) fun K hK => ?_
  simp +decide only [qa, ev, qK, qH, putD, Slots.put, Slots.keep, if_true, if_false, true_and, ↓qc, qb]
  apply hK; clear hK K
  refine qN ?_
  refine awp_rseq [0, 10, 11, 12] (by rfl) fun K hK => ?_
  simp +decide only [qa, ev, qK, qH, putD, Slots.put, Slots.get, Slots.keep, if_true, if_false, true_and, ↓qg, qd, ↓Xw, QH, XH Tryz.underlying62]
  apply hK; clear hK K
  refine Qt ?_
  refine XW [0, 10, 11, 12] (fun i : Nat => [(0, .slice l o ls.length cp), (10, .slice l o ls.length cp), (11, .int .i64 ls.length), (12, .int .i64 i)]) (fun i : Nat => h) (fun i : Nat => i ≤ ls.length ∧ (ls.all fun x => rightE x.2) = ((ls.drop i).all fun x => rightE x.2)) (fun i : Nat => ls.length - i) 0 (by rfl) (Sub.refl _) ⟨Nat.zero_le _, rfl⟩ ?_
  rintro i ⟨hi, hg⟩
  refine awp_rseq [0, 10, 11, 12, 13] (by rfl) fun K hK => ?_
  simp +decide only [qa, ev, putD, Slots.put, Slots.get, Slots.keep, if_true, if_false, true_and, ↓qw, qh, qP, cond_false, qm, pI_lss]
  apply hK; clear hK K
  refine qN (qM (b := _) rfl (fun hb1 => ?_) (fun hb1 => ?_))
  · try simp only [decide_eq_true_eq] at hb1
    have hi' : i < ls.length := by omega
    obtain ⟨e0, e1⟩ := lineC_at hm hi'
    obtain ⟨x, hx⟩ : ∃ x, x = ls.getD i (false, []) := ⟨_, rfl⟩
    have hxl : x.2.length ≤ 1000000 := by rw [hx, List.getD, List.getElem?_eq_getElem hi']; exact ht _ (List.getElem_mem hi')
    rw [← hx] at e0 e1
    rw [drop_getD (false, []) hi', ← hx, List.all_cons] at hg
    have hn0 : ¬ x.2 = [] → 0 < x.2.length := fun q => List.length_pos_iff.2 q
    refine qZ ?_
    change Awp _ _ _ _ _ _ _
    refine qN ?_
    refine Qt ?_
    refine awp_rseq [0, 5, 10, 11, 12] (by rfl) fun K hK => ?_
    simp +decide only [ev, putD, Slots.put, Slots.get, if_true, if_false, true_and, ↓QT, Qb, Qj Tryz.underlying62 sz61, ↓qJ, qi ag61 sz61, qf, qC, qE, allLive, qf, e0, e1, Int.toNat_natCast, qC, qE, allLive, Bool.and_self]
    repeat (with_reducible refine And.intro ?_ ?_; · first | trivial | omega | (intro hg; simp only [Bool.and_eq_true, Bool.or_eq_true, Bool.not_eq_true', Bool.and_eq_false_iff, Bool.or_eq_false_iff, Bool.not_eq_false', decide_eq_true_eq, decide_eq_false_iff_not, XI] at hg; omega) )
    refine Qh ze61 (cs := [.bool false, .str []]) (by rfl) fun k3q2 hk3q2 => ?_
    try have hf_3q2 : h k3q2 = none := by first | assumption | (simp only [AHeap.set_none] at hk3q2; simp only [hk3q2])
    refine qp (by rfl) (by rfl) (by repeat (first | exact AHeap.set_same _ _ _ | assumption | refine (AHeap.set_ne _ _ (by first | assumption | exact Ne.symm (by assumption))).trans ?_)) sz61 (by rfl) (by rfl) (by first | exact Nat.le_refl _ | decide | (simp; done) | (simp; omega)) (Nat.zero_le _) (by rfl) ?_
    simp only [AHeap.set_set, AVal.cells]
    simp +decide only [qa, ev, putD, Slots.put, Slots.get, Slots.keep, if_true, if_false, setAt, List.set_cons_zero, List.set_cons_succ, Nat.zero_add]
    apply hK; clear hK K
    refine awp_rseq [0, 10, 11, 12, 45] (by kernel_rfl) fun K hK => ?_
    simp +decide only [ev, qK, qH, putD, Slots.put, Slots.get, if_true, if_false, true_and, ↓qF, qo, fa61_1, ↓qJ, Qb, qD ag9, ↓qw, qh, isNilC_str, cond_false, XN, pS_eql, ↓qg, qd, ↓XE, agP, Qm, qI, qG, qV, implies_true, ↓Zm, XY, agL_mk, agL_ld2, Xa, List.getD_cons_zero, List.getD_cons_succ, Nat.zero_add, qE]
    (refine XJ (V := .bool (x.2.all okB)) (f := _) (cap := _) (xs := _) (by first | rfl | (simp +decide only [gv, qI, Slots.get, if_true, if_false, QV, qG])) (fun hg => ⟨rfl, ?_⟩) (fun hg => c_printable w₀ _ x.2 (by omega)) ?_; · (simp +decide only [gv, qI, Slots.get, if_true, if_false, qV] at hg; simp +decide only [evs, ev, Slots.get, if_true, if_false, hg, Qs, List.append_nil, List.map_cons, List.map_nil] <;> try rfl))
    simp +decide only [ev, qK, qH, putD, Slots.put, Slots.get, if_true, if_false, true_and, gv, qI, qV, ↓ag_unOp, pop_unOp, agP, Qm, qG, implies_true, pU_not, cv_un, cp_un, ↓QN, Qw, Qg, Za, pickV_or, ↓qg, qd, ↓XE, qo, fa61_1, ↓Zm, XY, agL_mk, agL_ld2, qD ag9, ↓ag_index, pop_index, pIndex_str Tryz.underlying9, cv_indexl, cv_indexr, cp_indexl, cp_indexr, ↓QW, qh, qz, cond_false, XR, XT, qm, Xo, ↓ag_len, QH, Zk Tryz.underlying9, cv_len, cp_len, pI_sub, Xa, List.getD_cons_zero, List.getD_cons_succ, Nat.zero_add, qE]
    try simp (disch := omega) only [wrap_i64]
    repeat (with_reducible refine And.intro ?_ ?_; · first | trivial | omega | (intro hg; simp only [Bool.not_eq_true', Bool.or_eq_false_iff, Bool.not_eq_false', decide_eq_false_iff_not, XI] at hg; omega) )
    (refine XJ (V := .bool (Qy x.2)) (f := _) (cap := _) (xs := _) (by first | rfl | (simp +decide only [gv, qI, Slots.get, if_true, if_false, QV, qG])) (fun hg => ⟨rfl, ?_⟩) (fun hg => c_open w₀ _ x.2 (by omega)) ?_; · (simp +decide only [gv, qI, Slots.get, if_true, if_false, qV] at hg; simp +decide only [evs, ev, Slots.get, if_true, if_false, hg, Qs, List.append_nil, List.map_cons, List.map_nil] <;> try rfl))
    simp +decide only [qa, ev, qK, qH, putD, Slots.put, Slots.get, Slots.keep, if_true, if_false, true_and, gv, qI, qV, ↓QN, Qw, Qg, Za, pickV_or]
    apply hK; clear hK K
    refine qM (b := _) rfl (fun hb2 => ?_) (fun hb2 => ?_)
    · try simp only [decide_eq_true_eq, Bool.not_eq_true', Bool.or_eq_true] at hb2
      skip
      refine awp_rseq [2, 3] (by rfl) fun K hK => ?_
      simp +decide only [qa, ev, qK, qH, putD, Slots.put, Slots.keep, if_true, if_false, true_and, ↓qc, qb]
      apply hK; clear hK K
      refine qU ?_
      try simp only [Ql, QA]
      refine qO h (by repeat (first | exact Sub.refl _ | assumption | refine Sub.trans_set ?_ (by assumption))) (Qd (Qd (Qe))) ?_
      simp +decide only [Slots.get, if_true, if_false, resOf_two]
      have hr : rightE x.2 = false := by
        rw [right_parts]
        cases hq : (!decide (x.2 = []) && x.2.all okB && !decide (x.2.getD 0 0 = 32) && !decide (x.2.getD (x.2.length - 1) 0 = 32) && !Qy x.2) with
        | false => rfl
        | true =>
          exfalso
          simp only [Bool.and_eq_true, Bool.not_eq_true', decide_eq_false_iff_not] at hq
          obtain ⟨⟨⟨⟨q1, q2⟩, q3⟩, q4⟩, q5⟩ := hq
          rw [show ((x.2.length : Int) - 1).toNat = x.2.length - 1 by omega, Int.toNat_zero] at hb2
          rw [q2, q5] at hb2
          rcases hb2 with (((q | q) | q) | q) | q
          · exact q1 q
          · cases q
          · exact q3 (UInt8.toNat.inj (by have : ((32 : UInt8).toNat) = 32 := rfl; omega))
          · exact q4 (UInt8.toNat.inj (by have : ((32 : UInt8).toNat) = 32 := rfl; omega))
          · cases q
      have hw : writeE ls = ([], 1) := by unfold writeE; rw [hg, hr, Bool.false_and]; rfl
      rw [hw]
      exact ⟨rfl, Sub.refl _⟩
    · try simp only [decide_eq_false_iff_not, Bool.not_eq_false', Bool.or_eq_false_iff] at hb2
      refine qZ ?_
      change Awp _ _ _ _ _ _ _
      refine Xl [0, 10, 11, 12] (by rfl) ?_
      simp +decide only [qa, ev, qK, qH, putD, Slots.put, Slots.get, Slots.keep, if_true, if_false, true_and, ↓qw, qh, qz, cond_false, qm, Xk, ↓qg, qd]
      try simp (disch := omega) only [wrap_i64]
      try simp only [qR]
      refine ⟨i + 1, rfl, (by repeat (first | exact Sub.refl _ | assumption | refine Sub.set_both ?_ _ _ | refine Sub.trans_set ?_ (by repeat (first | assumption | refine (AHeap.set_ne _ _ (by first | assumption | exact Ne.symm (by assumption))).trans ?_)))), ⟨hi', ?_⟩, by omega⟩
      rw [hg]
      have hr : rightE x.2 = true := by
        rw [right_parts]
        rw [show ((x.2.length : Int) - 1).toNat = x.2.length - 1 by omega, Int.toNat_zero] at hb2
        obtain ⟨⟨⟨⟨q1, q2⟩, q3⟩, q4⟩, q5⟩ := hb2
        rw [q2, q5, decide_eq_false q1, decide_eq_false (fun q => q3 (by rw [q]; rfl)), decide_eq_false (fun q => q4 (by rw [q]; rfl))]
        rfl
      rw [hr, Bool.true_and]
  · try simp only [decide_eq_false_iff_not] at hb1
    have hw : writeE ls = writeGo ls 0 [] := by
      unfold writeE
      rw [hg, List.drop_of_length_le (by omega)]
      rfl
    rw [hw]
    refine Ze ?_
    change Awp _ _ _ _ _ _ _
    refine awp_aseqT [0, 6] (by decide) (by decide) ze108 (cs := [.nilPtr, .nilSlice, .int .i64 0]) (by rfl) fun k7q0 hk7q0 ht7q0 => ?_
    simp +decide only [Slots.put, Slots.keep, if_true, if_false]
    try have hf_7q0 : h k7q0 = none := by first | assumption | (simp only [AHeap.set_none] at hk7q0; simp only [hk7q0])
    refine qN ?_
    refine awp_rseq [6, 47, 48, 49] (by rfl) fun K hK => ?_
    simp +decide only [qa, ev, qK, qH, putD, Slots.put, Slots.get, Slots.keep, if_true, if_false, true_and, ↓qg, qd, ↓Xw, QH, XH Tryz.underlying62]
    apply hK; clear hK K
    refine Qt ?_
    refine XW [6, 47, 48, 49] (fun g : WrG => [(6, .ptr (.own k7q0) 0), (47, .slice l o ls.length cp), (48, .int .i64 ls.length), (49, .int .i64 g.i)]) (fun g : WrG => bldH h k7q0 [.int .i64 g.n] g.st) (fun g : WrG => WrOk ls h k7q0 g) (fun g : WrG => ls.length - g.i) ⟨0, 0, .none⟩ (by rfl) (Sub.refl _) ⟨Nat.zero_le _, Nat.zero_le _, Bld.none_ok, by simp [Bld.none, Bld.bytes], rfl⟩ ?_
    rintro ⟨i, n, st⟩ ⟨g1, g2, g3, g4, g5⟩
    simp only at g1 g2 g3 g4 g5 ⊢
    refine awp_rseq [6, 47, 48, 49, 50] (by rfl) fun K hK => ?_
    simp +decide only [qa, ev, putD, Slots.put, Slots.get, Slots.keep, if_true, if_false, true_and, ↓qw, qh, qP, cond_false, qm, pI_lss]
    apply hK; clear hK K
    refine qN (qM (b := _) rfl (fun hb3 => ?_) (fun hb3 => ?_))
    · try simp only [decide_eq_true_eq] at hb3
      have hi' : i < ls.length := by omega
      obtain ⟨e0, e1⟩ := lineC_at (hm.mono (Sub.bldH (rest := [.int .i64 n]) hk7q0 g3)) hi'
      obtain ⟨x, hx⟩ : ∃ x, x = ls.getD i (false, []) := ⟨_, rfl⟩
      have hxl : x.2.length ≤ 1000000 := by rw [hx, List.getD, List.getElem?_eq_getElem hi']; exact ht _ (List.getElem_mem hi')
      rw [← hx] at e0 e1
      rw [drop_getD (false, []) hi', ← hx, writeGo] at g5
      obtain ⟨cl, hcl⟩ : ∃ cl : Nat, cl = if x.1 = true then 8 else 12 := ⟨_, rfl⟩
      have hcl2 : 8 ≤ cl ∧ cl ≤ 12 := by rw [hcl]; split <;> omega
      rw [← hcl] at g5
      have hn1 := textE_n (x.2.length + 1) cl [32] false n st.bytes x.2
      refine qZ ?_
      change Awp _ _ _ _ _ _ _
      refine qN ?_
      refine Qt ?_
      refine awp_rseq [6, 8, 47, 48, 49] (by rfl) fun K hK => ?_
      simp +decide only [ev, putD, Slots.put, Slots.get, if_true, if_false, true_and, ↓QT, Qb, Qj Tryz.underlying62 sz61, ↓qJ, qi ag61 sz61, qf, qC, qE, allLive, qf, e0, e1, Int.toNat_natCast, qC, qE, allLive, Bool.and_self]
      repeat (with_reducible refine And.intro ?_ ?_; · first | trivial | omega | (intro hg; simp only [Bool.and_eq_true, Bool.or_eq_true, Bool.not_eq_true', Bool.and_eq_false_iff, Bool.or_eq_false_iff, Bool.not_eq_false', decide_eq_true_eq, decide_eq_false_iff_not, XI] at hg; omega) )
      refine Qh ze61 (cs := [.bool false, .str []]) (by rfl) fun k10q2 hk10q2 => ?_
      try have hf_10q2 : h k10q2 = none := by first | assumption | (simp only [AHeap.set_none] at hk10q2; simp only [hk10q2])
      refine qp (by rfl) (by rfl) (by repeat (first | exact AHeap.set_same _ _ _ | assumption | refine (AHeap.set_ne _ _ (by first | assumption | exact Ne.symm (by assumption))).trans ?_)) sz61 (by rfl) (by rfl) (by first | exact Nat.le_refl _ | decide | (simp; done) | (simp; omega)) (Nat.zero_le _) (by rfl) ?_
      simp only [AHeap.set_set, AVal.cells]
      simp +decide only [qa, ev, putD, Slots.put, Slots.get, Slots.keep, if_true, if_false, setAt, List.set_cons_zero, List.set_cons_succ, Nat.zero_add]
      apply hK; clear hK K
      refine awp_rseq [6, 8, 9, 47, 48, 49] (by rfl) fun K hK => ?_
      simp +decide only [qa, ev, qK, qH, putD, Slots.put, Slots.keep, if_true, if_false, true_and, ↓qc, qb]
      apply hK; clear hK K
      refine qN ?_
      refine awp_rseq [6, 8, 9, 47, 48, 49, 54] (by rfl) fun K hK => ?_
      simp +decide only [qa, ev, putD, Slots.put, Slots.get, Slots.keep, if_true, if_false, true_and, ↓qF, qo, fa61_0, ↓qJ, Qb, qD ag4, Xa, List.getD_cons_zero, Nat.zero_add, qC]
      apply hK; clear hK K
      refine awp_joinT [6, 8, 9, 47, 48, 49] (fun z : Unit => [(6, .ptr (.own k7q0) 0), (8, .ptr (.own k10q2) 0), (9, .int .i64 cl), (47, .slice l o ls.length cp), (48, .int .i64 ls.length), (49, .int .i64 i)]) (fun z : Unit => (bldH h k7q0 [.int .i64 n] st).set k10q2 ⟨[.bool x.1, .str x.2], 0⟩) (fun z : Unit => True) ?_ ?_
      · refine qM (b := _) rfl (fun hb4 => ?_) (fun hb4 => ?_)
        · skip
          refine Xl [6, 8, 9, 47, 48, 49] (by rfl) ?_
          simp +decide only [qa, ev, qK, qH, putD, Slots.put, Slots.keep, if_true, if_false, true_and, and_true, ↓qc, qb]
          try simp only [qR]
          first
          | refine ⟨(), ?_, Sub.refl _, trivial⟩
          | refine ⟨(), ?_, Sub.refl _⟩
          rw [hb4] at hcl
          rw [hcl]
          rfl
        · skip
          refine qZ ?_
          try simp only [qR]
          first
          | refine ⟨(), ?_, Sub.refl _, trivial⟩
          | refine ⟨(), ?_, Sub.refl _⟩
          rw [hb4] at hcl
          rw [hcl]
          rfl
      · intro _ _
        have hne : k10q2 ≠ k7q0 := fun q => by rw [q, bldH_head g3] at hk10q2; cases hk10q2
        have hnn : h k10q2 = none := (Sub.bldH (rest := [.int .i64 n]) hk7q0 g3).none hk10q2
        refine awp_rseq [6, 47, 48, 49] (by rfl) fun K hK => ?_
        simp +decide only [ev, putD, Slots.put, Slots.get, if_true, if_false, true_and, ↓qg, qd, ↓qF, qo, fa61_1, ↓qJ, Qb, qD ag9, Xa, List.getD_cons_zero, List.getD_cons_succ, Nat.zero_add, qE]
        rw [bldH_set hk10q2]
        refine Xp (by rfl) (by rfl) (c_text w₀ ht10 (h.set k10q2 ⟨[.bool x.1, .str x.2], 0⟩) k7q0 n st ht7q0 (by rw [AHeap.set_ne _ _ hne.symm]; exact hk7q0) (Bld.ok_lay g3 hk10q2 _) cl x.2 hcl2.1 hcl2.2 (by omega) (by omega)) fun x14q3 h14q3 hx14q3 => ?_
        obtain ⟨rfl, st', s1, s2, rfl⟩ := hx14q3
        have s3 : st'.ok 5 h k7q0 := Bld.ok_sub s1 (Sub.set hnn)
        simp +decide only [qa, putD, Slots.put, Slots.keep, if_true, if_false]
        apply hK; clear hK K
        refine awp_rseq [6, 47, 48, 49, 61] (by rfl) fun K hK => ?_
        simp +decide only [ev, putD, Slots.put, Slots.get, if_true, if_false, true_and, ↓qF, qo, fa108_0, Nat.zero_add]
        refine qL (V := .int .i64 st'.bytes.length) (by rfl) (by rfl) (c_bLen w₀ _ k7q0 _ st' s1) ?_
        simp +decide only [qa, ev, qK, qH, putD, Slots.put, Slots.get, Slots.keep, if_true, if_false, true_and, ↓qw, qh, qz, cond_false, qm, pI_gtr]
        apply hK; clear hK K
        refine qM (b := _) rfl (fun hb5 => ?_) (fun hb5 => ?_)
        · try simp only [decide_eq_true_eq] at hb5
          refine awp_rseq [2, 3] (by rfl) fun K hK => ?_
          simp +decide only [qa, ev, qK, qH, putD, Slots.put, Slots.keep, if_true, if_false, true_and, ↓qc, qb]
          apply hK; clear hK K
          refine qU ?_
          try simp only [Ql, QA]
          refine qO h ((Sub.set hnn).trans (Sub.bldH (by rw [AHeap.set_ne _ _ hne.symm]; exact hk7q0) s1)) (Qd (Qd (Qe))) ?_
          simp +decide only [Slots.get, if_true, if_false, resOf_two]
          rw [← g5, if_pos (by rw [← s2]; omega)]
          exact ⟨rfl, Sub.refl _⟩
        · try simp only [decide_eq_false_iff_not] at hb5
          refine qZ ?_
          change Awp _ _ _ _ _ _ _
          refine Xl [6, 47, 48, 49] (by rfl) ?_
          simp +decide only [qa, ev, qK, qH, putD, Slots.put, Slots.get, Slots.keep, if_true, if_false, true_and, ↓qw, qh, qz, cond_false, qm, Xk, ↓qg, qd]
          try simp (disch := omega) only [wrap_i64]
          try simp only [qR]
          refine ⟨⟨i + 1, (textE (x.2.length + 1) cl [32] false n st.bytes x.2).1, st'⟩, rfl, Sub.bldH_both (Sub.set hnn), ⟨hi', by simp only; omega, s3, by simp only; omega, ?_⟩, by simp only; omega⟩
          rw [if_neg (by rw [← s2]; omega), ← s2] at g5
          exact g5
    · try simp only [decide_eq_false_iff_not] at hb3
      have he : i = ls.length := by omega
      rw [he, List.drop_length, writeGo] at g5
      rw [← g5]
      refine Ze ?_
      change Awp _ _ _ _ _ _ _
      refine awp_rseq [2, 3] (by rfl) fun K hK => ?_
      simp +decide only [ev, putD, Slots.put, Slots.get, if_true, if_false, true_and, ↓qF, qo, fa108_0, Nat.zero_add]
      refine Xp (by rfl) (by rfl) (c_bString w₀ h k7q0 [.int .i64 n] st 108 hk7q0 ht7q0 g3 (by omega)) fun x18q1 h18q1 hx18q1 => ?_
      obtain ⟨rfl, q18⟩ := hx18q1
      subst h18q1
      simp +decide only [qa, ev, qK, qH, putD, Slots.put, Slots.get, Slots.keep, if_true, if_false, true_and, ↓qc, qb]
      apply hK; clear hK K
      refine qU ?_
      try simp only
      refine qO h (by repeat (first | exact Sub.refl _ | assumption | refine Sub.trans_set ?_ (by assumption))) (Qd (Qd (Qe))) ?_
      simp +decide only [Slots.get, if_true, if_false, true_and, resOf_two]
      exact Sub.refl _
end Go.Proofs.YtmadddihphkmoaaGreatDoor

/-
  Contracts: spaces, right, plain, digits, divide of the laws; Open, Squeeze of the reference.
  Conditions: none.
-/
namespace Go.Proofs.YtmadddihphkmoaaGreatDoor
open Go.AM
open Go.Proofs
open Go.Col
set_option maxRecDepth 100000

/-- Where a text is divided. -/
def divGo (s : Str) (q : Bool) : Nat → Option Nat
  | 0 => none
  | k + 1 => if k + 1 < s.length ∧ s.getD (k + 1) 0 = 32 ∧ Qy (s.take (k + 1)) = q then some (k + 1) else divGo s q k
/-- A text with single spaces outside of quotes: whether in quotes, whether behind a space. -/
def sqGo : Bool → Bool → Str → Str
  | _, _, [] => []
  | q, p, b :: s => if b = 32 ∧ (if b = 34 then !q else q) = false ∧ p = true then sqGo (if b = 34 then !q else q) (decide (b = 32)) s else b :: sqGo (if b = 34 then !q else q) (decide (b = 32)) s
def sqE (s : Str) : Str := sqGo false false s
def behind (s : Str) (i : Nat) : Bool := decide (0 < i) && decide (s.getD (i - 1) 0 = 32)
end Go.Proofs.YtmadddihphkmoaaGreatDoor

/-
  Contracts: read of the laws.
  Conditions: none.
-/
namespace Go.Proofs.YtmadddihphkmoaaGreatDoor
open Go.AM
open Go.Proofs
open Go.Col
set_option maxRecDepth 100000

end Go.Proofs.YtmadddihphkmoaaGreatDoor

/-
  Contracts: lives of the laws.
  Conditions: none.
-/
namespace Go.Proofs.YtmadddihphkmoaaGreatDoor
open Go.AM
open Go.Proofs
open Go.Col
set_option maxRecDepth 100000

theorem isLines {w₀ : World} {h : AHeap} {k : Nat} {ls : List (Bool × Str)} (hk : h k = some ⟨(ls.map lineC).flatten, 0⟩) (c : Cap) (hc : c = .exact ls.length) : IsL w₀ h 2 (.slice (.own k) 0 ls.length c) (ls.map lineC) := by
  have hw : ∀ x ∈ ls.map lineC, x.length = 2 := fun x hx => by obtain ⟨y, _, rfl⟩ := List.mem_map.1 hx; rfl
  have hl : allLive (ls.map lineC).flatten = true := allLive_flatten.2 fun x hx => by obtain ⟨y, _, rfl⟩ := List.mem_map.1 hx; rfl
  have := IsL.own (w₀ := w₀) hk hw rfl hl c (by rw [hc]; simp)
  rw [List.length_map] at this
  exact this
end Go.Proofs.YtmadddihphkmoaaGreatDoor

/-
  The statement ColumnsLayout, walked.
  Conditions: none.
-/
namespace Go.Proofs.YtmadddihphkmoaaGreatDoor
open Go.AM
open Go.Proofs
open Go.Col
set_option maxRecDepth 100000

theorem oddQ_cons (b : UInt8) (s : Str) : Qy (b :: s) = if b = 34 then !Qy s else Qy s := by
  unfold Qy quotes
  rw [List.countP_cons]
  by_cases h : b = 34
  · rw [if_pos (by simp [h]), if_pos h, Bool.eq_iff_iff, Bool.not_eq_true', decide_eq_true_eq, decide_eq_false_iff_not]
    omega
  · rw [if_neg (by simp [h]), if_neg h]
    rfl
theorem XD (a b : Str) : Qy (a ++ b) = (Qy a != Qy b) := by
  induction a with
  | nil => show Qy b = (false != Qy b); cases Qy b <;> rfl
  | cons x a ih =>
    rw [List.cons_append, oddQ_cons, oddQ_cons, ih]
    split
    · cases Qy a <;> cases Qy b <;> rfl
    · rfl
/-- A byte at which a text can be divided. -/
def cutAt (s : Str) (q : Bool) (n : Nat) : Bool := decide (n < s.length) && decide (s.getD n 0 = 32) && (Qy (s.take n) == q)
theorem spaceGo_low : ∀ (s : Str) (i n : Nat) (q : Bool) (f : Nat), n < i → spaceGo s i n q f = f
  | [], _, _, _, _, _ => rfl
  | b :: s, i, n, q, f, h => by rw [spaceGo, if_pos h]
theorem spaceGo_up : ∀ (s : Str) (i n : Nat) (q : Bool) (f : Nat), spaceGo s i (n + 1) q f = if i ≤ n + 1 ∧ cutAt s q (n + 1 - i) = true then n + 1 else spaceGo s i n q f
  | [], i, n, q, f => by
    rw [if_neg (by unfold cutAt; simp)]
    rfl
  | b :: s, i, n, q, f => by
    by_cases h1 : n + 1 < i
    · rw [spaceGo_low _ _ _ _ _ h1, spaceGo_low _ _ _ _ _ (by omega), if_neg (by omega)]
    · rw [spaceGo, if_neg h1]
      simp only
      rw [spaceGo_up s (i + 1) n]
      by_cases h2 : i = n + 1
      · rw [if_neg (by omega), spaceGo_low _ _ _ _ _ (by omega), spaceGo_low (b :: s) i n q f (by omega)]
        have e : cutAt (b :: s) q (n + 1 - i) = (decide (b = 32) && (false == q)) := by
          rw [h2, Nat.sub_self]
          unfold cutAt
          simp only [List.length_cons, List.getD_cons_zero, List.take_zero]
          rw [decide_eq_true (by omega), Bool.true_and]
          rfl
        rw [e]
        by_cases hb : b = 32
        · subst hb
          cases q
          · simp [show 0 < i by omega, show i ≤ n + 1 by omega]; omega
          · simp
        · rw [if_neg (by simp [hb]), if_neg (by simp [hb])]
      · have e : cutAt (b :: s) q (n + 1 - i) = cutAt s (if b = 34 then !q else q) (n + 1 - (i + 1)) := by
          have : n + 1 - i = (n + 1 - (i + 1)) + 1 := by omega
          rw [this]
          unfold cutAt
          simp only [List.length_cons, List.getD_cons_succ, List.take_succ_cons]
          rw [oddQ_cons]
          have e1 : decide (n + 1 - (i + 1) + 1 < s.length + 1) = decide (n + 1 - (i + 1) < s.length) := by rw [decide_eq_decide]; omega
          rw [e1]
          congr 1
          split
          · cases q <;> cases Qy (s.take (n + 1 - (i + 1))) <;> rfl
          · rfl
        rw [e]
        have er : spaceGo (b :: s) i n q f = spaceGo s (i + 1) n (if b = 34 then !q else q) (if b = 32 ∧ (if b = 34 then !q else q) = false ∧ 0 < i then i else f) := by rw [spaceGo, if_neg (show ¬ n < i by omega)]
        rw [er]
        by_cases hc : cutAt s (if b = 34 then !q else q) (n + 1 - (i + 1)) = true
        · rw [if_pos ⟨by omega, hc⟩, if_pos ⟨by omega, hc⟩]
        · have n1 : ¬ (i + 1 ≤ n + 1 ∧ cutAt s (if b = 34 then !q else q) (n + 1 - (i + 1)) = true) := fun x => hc x.2
          have n2 : ¬ (i ≤ n + 1 ∧ cutAt s (if b = 34 then !q else q) (n + 1 - (i + 1)) = true) := fun x => hc x.2
          rw [if_neg n1, if_neg n2]
theorem spaceE_up (s : Str) (n : Nat) (q : Bool) : Xn s (n + 1) q = if cutAt s q (n + 1) = true then n + 1 else Xn s n q := by
  unfold Xn
  rw [spaceGo_up]
  simp only [Nat.sub_zero, Nat.zero_le, true_and]
theorem spaceE_zero (s : Str) (q : Bool) : Xn s 0 q = 0 := by have := (spaceE_le s 0 q).1; omega
theorem divGo_eq (s : Str) (q : Bool) : ∀ n, divGo s q n = if 0 < Xn s n q then some (Xn s n q) else none
  | 0 => by rw [spaceE_zero]; rfl
  | n + 1 => by
    rw [divGo, spaceE_up, divGo_eq s q n]
    have e : (n + 1 < s.length ∧ s.getD (n + 1) 0 = 32 ∧ Qy (s.take (n + 1)) = q) ↔ cutAt s q (n + 1) = true := by
      unfold cutAt
      simp only [Bool.and_eq_true, decide_eq_true_eq, beq_iff_eq, and_assoc]
    by_cases h : cutAt s q (n + 1) = true
    · rw [if_pos (e.2 h), if_pos h, if_pos (by omega)]
    · rw [if_neg (fun x => h (e.1 x)), if_neg h]
theorem spaceE_cut (s : Str) (q : Bool) : ∀ n, 0 < Xn s n q → cutAt s q (Xn s n q) = true
  | 0, h => by rw [spaceE_zero] at h; omega
  | n + 1, h => by
    rw [spaceE_up] at h ⊢
    split
    · rename_i hc; exact hc
    · rename_i hc; rw [if_neg hc] at h; exact spaceE_cut s q n h
theorem spaceE_none {s : Str} {q : Bool} : ∀ {n : Nat}, ¬ 0 < Xn s n q → ∀ k, 0 < k → k ≤ n → cutAt s q k = false
  | 0, _, k, h1, h2 => by omega
  | n + 1, h, k, h1, h2 => by
    rw [spaceE_up] at h
    by_cases hc : cutAt s q (n + 1) = true
    · rw [if_pos hc] at h; omega
    · rw [if_neg hc] at h
      by_cases hk : k = n + 1
      · subst hk; simpa using hc
      · exact spaceE_none h k h1 (by omega)
/-- The last byte is no space. -/
def lastOk (s : Str) : Prop := s ≠ [] ∧ s.getLast? ≠ some 32
theorem lastOk_drop {s : Str} (h : lastOk s) {k : Nat} (hk : k < s.length) : lastOk (s.drop k) := by
  refine ⟨fun e => ?_, ?_⟩
  · have := congrArg List.length e; simp at this; omega
  · rw [List.getLast?_drop, if_neg (by omega)]; exact h.2
theorem trimL_split (s : Str) : ∃ k, s = List.replicate k 32 ++ Xr s ∧ (Xr s).head? ≠ some 32 := by
  induction s with
  | nil => exact ⟨0, rfl, by simp [Xr]⟩
  | cons b s ih =>
    by_cases h : b = 32
    · obtain ⟨k, h1, h2⟩ := ih
      refine ⟨k + 1, ?_, ?_⟩
      · subst h
        rw [List.replicate_succ, List.cons_append]
        have : Xr (32 :: s) = Xr s := by simp [Xr]
        rw [this, ← h1]
      · have : Xr (b :: s) = Xr s := by simp [Xr, h]
        rw [this]; exact h2
    · have : Xr (b :: s) = b :: s := by simp [Xr, h]
      rw [this]
      exact ⟨0, rfl, by simpa using h⟩
theorem lastOk_trimL {s : Str} (h : lastOk s) : lastOk (Xr s) := by
  obtain ⟨k, h1, h2⟩ := trimL_split s
  have hne : Xr s ≠ [] := by
    intro e
    rw [e, List.append_nil] at h1
    cases k with
    | zero => exact h.1 h1
    | succ k =>
      refine h.2 ?_
      rw [h1, List.replicate_succ', List.getLast?_append]
      rfl
  refine ⟨hne, ?_⟩
  have := h.2
  rw [h1, List.getLast?_append] at this
  cases hl : (Xr s).getLast? with
  | none => simp
  | some x => rw [hl] at this; simpa using this
theorem right_last {s : Str} (h : rightE s = true) : lastOk s := by
  unfold rightE at h
  simp only [Bool.and_eq_true, Bool.not_eq_true', decide_eq_false_iff_not] at h
  exact ⟨h.1.1.1.1, h.1.2⟩
end Go.Proofs.YtmadddihphkmoaaGreatDoor

/-
  Plain law: where the bytes of the cards that Read answers stand in the source text.
  Conditions: none.
-/
namespace Go.Proofs.YtmadddihphkmoaaGreatDoor
open Go.AM
open Go.Proofs
open Go.Col
set_option maxRecDepth 100000

/-- A part of a card: where it begins, its bytes. -/
structure PartC where
  line : Int
  col : Int
  str : Str
def partsText : List PartC → Str
  | [] => []
  | p :: ps => p.str ++ partsText ps
def marksFrom : Nat → List PartC → List MarkC
  | _, [] => []
  | n, p :: ps => ⟨n, p.line, p.col⟩ :: marksFrom (n + p.str.length) ps
/-- The byte at a place of the source text, lines padded to 72 columns. -/
def byteAt (L : List Str) (line col : Int) : UInt8 := (padE (L.getD (line.toNat - 1) [])).getD (col.toNat - 1) 0
structure PartOk (L : List Str) (p : PartC) : Prop where
  ne : 0 < p.str.length
  low : 1 ≤ p.line
  high : p.line ≤ L.length
  col : 8 ≤ p.col
  fit : p.col + p.str.length ≤ 73
  byte : ∀ j : Nat, j < p.str.length → p.str.getD j 0 = byteAt L p.line (p.col + j)
def Asc (ps : List PartC) : Prop := ps.Pairwise fun p q => p.line < q.line

theorem getD_l {α : Type} {a b : List α} {d : α} {i : Nat} (h : i < a.length) : (a ++ b).getD i d = a.getD i d := by
  simp only [List.getD, List.getElem?_append_left h]
theorem getD_r {α : Type} {a b : List α} {d : α} {i : Nat} (h : a.length ≤ i) : (a ++ b).getD i d = b.getD (i - a.length) d := by
  simp only [List.getD, List.getElem?_append_right h]
theorem dropWhile_nil {α : Type} {p : α → Bool} : ∀ {l : List α}, l.dropWhile p = [] → ∀ x ∈ l, p x = true
  | [], _, x, hx => by cases hx
  | y :: l, h, x, hx => by
    rw [List.dropWhile_cons] at h
    split at h
    · rename_i hy
      rcases List.mem_cons.1 hx with rfl | hx
      · exact hy
      · exact dropWhile_nil h x hx
    · cases h
theorem partsText_append (a b : List PartC) : partsText (a ++ b) = partsText a ++ partsText b := by
  induction a with
  | nil => rfl
  | cons p a ih => simp only [List.cons_append, partsText, ih, List.append_assoc]
theorem marksFrom_append : ∀ (a b : List PartC) (n : Nat), marksFrom n (a ++ b) = marksFrom n a ++ marksFrom (n + (partsText a).length) b
  | [], b, n => rfl
  | p :: a, b, n => by
    simp only [List.cons_append, marksFrom, partsText, List.length_append]
    rw [marksFrom_append a b, Nat.add_assoc]
theorem valid_parts (c : CardC) {L : List Str} : ∀ (ps : List PartC) (n : Nat) (b : Int), b < n → n + (partsText ps).length ≤ c.text.length → (∀ p ∈ ps, PartOk L p) → validC.go c b (marksFrom n ps) = true
  | [], _, _, _, _, _ => rfl
  | p :: ps, n, b, hb, hn, hp => by
    have h := hp p (by simp)
    have h1 := h.ne
    have h2 := h.low
    have h3 := h.col
    have h4 := h.fit
    simp only [partsText, List.length_append] at hn
    rw [marksFrom, validC.go, Bool.and_eq_true]
    refine ⟨decide_eq_true ⟨hb, by simp only; omega, h2, h3, by simp only; omega⟩, ?_⟩
    exact valid_parts c ps _ _ (by simp only; omega) (by omega) fun q hq => hp q (by simp [hq])
/-- A card and its parts. -/
structure CardOk (L : List Str) (c : CardC) (ps : List PartC) : Prop where
  text : c.text = partsText ps
  marks : c.marks = marksFrom 0 ps
  parts : ∀ p ∈ ps, PartOk L p
  asc : Asc ps
theorem CardOk.valid {L : List Str} {c : CardC} {ps : List PartC} (h : CardOk L c ps) (hn : ps ≠ []) : validC c = true := by
  cases ps with
  | nil => exact absurd rfl hn
  | cons p ps =>
    have hm := h.marks
    rw [validC_eq (by rw [hm, marksFrom]; simp)]
    rw [Bool.and_eq_true]
    refine ⟨?_, ?_⟩
    · rw [hm, marksFrom]; rfl
    · rw [hm]; exact valid_parts c (p :: ps) 0 (-1) (by omega) (by rw [h.text]; omega) h.parts
/-! ### What Read collects -/
theorem addC_ok {L : List Str} {c : CardC} {ps : List PartC} (h : CardOk L c ps) {line col : Int} {text : Str} (hp : ∀ t, t <+: text → 0 < t.length → PartOk L ⟨line, col, t⟩) (ha : ∀ p ∈ ps, p.line < line) :
    ∃ qs, CardOk L (addC c line col text) (ps ++ qs) ∧ (∀ q ∈ qs, q.line = line) ∧ qs.length ≤ 1 ∧ (trimR text ≠ [] → text ≠ [] → qs ≠ []) := by
  obtain ⟨t, ht⟩ : ∃ t, t = if Qy (c.text ++ text) then text else trimR text := ⟨_, rfl⟩
  have hpre : t <+: text := by
    rw [ht]
    split
    · exact List.prefix_refl _
    · unfold trimR
      exact List.reverse_suffix.1 (by rw [List.reverse_reverse]; exact List.dropWhile_suffix _)
  have hc : addC c line col text = ⟨c.left, c.text ++ t, if t = [] then c.marks else c.marks ++ [⟨c.text.length, line, col⟩]⟩ := by unfold addC; rw [ht]
  by_cases h0 : t = []
  · refine ⟨[], ?_, by simp, by simp, fun h1 h2 => ?_⟩
    · rw [hc, h0, if_pos rfl, List.append_nil, List.append_nil]
      exact ⟨h.text, h.marks, h.parts, h.asc⟩
    · rw [h0] at ht
      split at ht
      · exact absurd ht.symm h2
      · exact absurd ht.symm h1
  · refine ⟨[⟨line, col, t⟩], ?_, by simp, by simp, by simp⟩
    rw [hc, if_neg h0]
    refine ⟨?_, ?_, ?_, ?_⟩
    · simp only [partsText_append, partsText, List.append_nil, h.text]
    · simp only [marksFrom_append, marksFrom, Nat.zero_add, h.marks, h.text]
    · intro p hq
      rcases List.mem_append.1 hq with hq | hq
      · exact h.parts p hq
      · rw [List.mem_singleton.1 hq]
        exact hp t hpre (List.length_pos_iff.2 h0)
    · refine List.pairwise_append.2 ⟨h.asc, List.pairwise_singleton _ _, fun p hq q hr => ?_⟩
      rw [List.mem_singleton.1 hr]
      exact ha p hq
/-- Cards with their parts, ahead of a line. -/
structure RdOk (L : List Str) (n : Nat) (x : Rd) (ys : List (CardC × List PartC)) : Prop where
  cards : x.cards = ys.map (·.1)
  ok : ∀ y ∈ ys, CardOk L y.1 y.2
  ne : ∀ y ∈ ys, y.2 ≠ []
  asc : Asc (ys.flatMap (·.2))
  low : ∀ y ∈ ys, ∀ p ∈ y.2, p.line < n
theorem RdOk.next {L : List Str} {n : Nat} {x : Rd} {ys : List (CardC × List PartC)} (h : RdOk L n x ys) : RdOk L (n + 1) x ys :=
  ⟨h.cards, h.ok, h.ne, h.asc, fun y hy p hp => by have := h.low y hy p hp; omega⟩
/-- What a counting row gives. -/
structure RowOk (L : List Str) (n : Nat) (r : RowC) : Prop where
  line : r.line = n
  part : ∀ (d : Nat) (t : Str), t <+: r.text.drop d → 0 < t.length → PartOk L ⟨n, r.col + d, t⟩
  ne : r.text ≠ []
  trim : trimR r.text ≠ []
theorem trimL_drop (s : Str) : Xr s = s.drop (s.length - (Xr s).length) := by
  obtain ⟨k, h1, _⟩ := trimL_split s
  have h2 := congrArg List.length h1
  rw [List.length_append, List.length_replicate] at h2
  have : s.length - (Xr s).length = k := by omega
  rw [this]
  conv => rhs; rw [h1]
  rw [List.drop_left' (by simp)]
theorem lineE_row {s : Str} {n : Nat} {dbg : Bool} {r : RowC} (h : lineE s n dbg = (r, true, okF)) : s.length ≤ 80 ∧ r = rowE s n ∧ r.text ≠ [] := by
  have h1 := (lineE_small (s := s) (line := n) (dbg := dbg)).2
  rw [h] at h1
  have hne := (h1 rfl).1
  by_cases h80 : 80 < s.length
  · unfold lineE at h; rw [if_pos h80] at h; cases h
  · refine ⟨by omega, ?_, hne⟩
    cases hb : badAt s with
    | some i => unfold lineE at h; rw [if_neg h80, hb] at h; cases h
    | none =>
      rw [lineE_none h80 hb] at h
      split at h
      · cases h
      · split at h
        · exact (congrArg (·.1) h).symm
        · split at h
          · exact (congrArg (·.1) h).symm
          · cases h
theorem row_ok {L : List Str} {s : Str} {n : Nat} {dbg : Bool} {r : RowC} (h : lineE s n dbg = (r, true, okF)) (h1 : 1 ≤ n) (h2 : n ≤ L.length) (hs : L.getD (n - 1) [] = s) : RowOk L n r := by
  obtain ⟨h80, rfl, hne⟩ := lineE_row h
  obtain ⟨T, hT⟩ : ∃ T, T = ((padE s).drop 7).take 65 := ⟨_, rfl⟩
  have hp := padE_len h80
  have hTl : T.length = 65 := by rw [hT, List.length_take, List.length_drop]; omega
  have htx : (rowE s n).text = Xr T := by rw [hT]; rfl
  have hcol : (rowE s n).col = 73 - ((Xr T).length : Int) := by rw [hT]; rfl
  have hle := trimL_le T
  have hd := trimL_drop T
  obtain ⟨m, hm⟩ : ∃ m, m = (Xr T).length := ⟨_, rfl⟩
  rw [← hm] at hcol hle hd
  rw [hTl] at hle hd
  have htl2 : (Xr T).head? ≠ some 32 := by obtain ⟨_, _, q⟩ := trimL_split T; exact q
  refine ⟨rfl, fun d t ht hl => ?_, hne, ?_⟩
  · rw [htx] at ht
    obtain ⟨rest, hr⟩ := ht
    have hlen := congrArg List.length hr
    rw [List.length_append, List.length_drop, ← hm] at hlen
    refine ⟨hl, by simp only; omega, by simp only; omega, by simp only [hcol]; omega, by simp only [hcol]; omega, fun j hj => ?_⟩
    simp only
    unfold byteAt
    rw [hcol, show ((n : Int)).toNat - 1 = n - 1 by omega, hs, show ((73 : Int) - (m : Int) + (d : Int) + (j : Int)).toNat - 1 = 72 - m + d + j by simp only at hj; omega]
    have e1 : t.getD j 0 = (t ++ rest).getD j 0 := (getD_l hj).symm
    rw [e1, hr, hd, hT]
    simp only [List.getD_eq_getElem?_getD, List.getElem?_drop]
    rw [List.getElem?_take_of_lt (by simp only at hj; omega), List.getElem?_drop]
    congr 2
    simp only at hj
    omega
  · rw [htx] at hne ⊢
    intro e
    unfold trimR at e
    rw [List.reverse_eq_nil_iff] at e
    replace e := dropWhile_nil e
    cases hx : Xr T with
    | nil => exact hne hx
    | cons b u =>
      rw [hx] at htl2 e
      have := e b (by simp)
      simp only [beq_iff_eq] at this
      exact htl2 (by rw [this]; rfl)
theorem RdOk.flat {L : List Str} {n : Nat} {x : Rd} {ys : List (CardC × List PartC)} (h : RdOk L n x ys) : ∀ p ∈ ys.flatMap (fun y => y.2), p.line < (n : Int) := by
  intro p hp
  obtain ⟨y, hy, hp⟩ := List.mem_flatMap.1 hp
  exact h.low y hy p hp
theorem add_new {L : List Str} {n : Nat} {x : Rd} {ys : List (CardC × List PartC)} (h : RdOk L n x ys) {r : RowC} (hr : RowOk L n r) (b : Bool) : ∃ zs, RdOk L (n + 1) (addE { x with cards := x.cards ++ [⟨b, [], []⟩] } r.line r.col r.text) zs := by
  have h0 : CardOk L ⟨b, [], []⟩ [] := ⟨rfl, rfl, by simp, .nil⟩
  obtain ⟨qs, q1, q2, q3, q4⟩ := addC_ok h0 (line := r.line) (col := r.col) (text := r.text) (fun t ht hl => by have := hr.part 0 t ht hl; rw [hr.line]; simpa using this) (by simp)
  rw [XO (x := { x with cards := x.cards ++ [⟨b, [], []⟩] }) rfl]
  rw [List.nil_append] at q1
  have hl : ∀ q ∈ qs, q.line = n := fun q hq => by rw [q2 q hq, hr.line]
  refine ⟨ys ++ [(addC ⟨b, [], []⟩ r.line r.col r.text, qs)], ?_, ?_, ?_, ?_, ?_⟩
  · simp only [List.map_append, h.cards, List.map_cons, List.map_nil]
  · intro y hy
    rcases List.mem_append.1 hy with hy | hy
    · exact h.ok y hy
    · rw [List.mem_singleton.1 hy]; exact q1
  · intro y hy
    rcases List.mem_append.1 hy with hy | hy
    · exact h.ne y hy
    · rw [List.mem_singleton.1 hy]; exact q4 hr.trim hr.ne
  · rw [List.flatMap_append]
    refine List.pairwise_append.2 ⟨h.asc, by simp only [List.flatMap_cons, List.flatMap_nil, List.append_nil]; exact q1.asc, fun p hp q hq => ?_⟩
    simp only [List.flatMap_cons, List.flatMap_nil, List.append_nil] at hq
    rw [hl q hq]
    exact h.flat p hp
  · intro y hy p hp
    rcases List.mem_append.1 hy with hy | hy
    · have := h.low y hy p hp; omega
    · rw [List.mem_singleton.1 hy] at hp
      rw [hl p hp]; omega
theorem add_more {L : List Str} {n : Nat} {x : Rd} {ys : List (CardC × List PartC)} (h : RdOk L n x ys) (hn : x.cards ≠ []) {line col : Int} {text : Str} (hl : line = n) (hp : ∀ t, t <+: text → 0 < t.length → PartOk L ⟨line, col, t⟩) : ∃ zs, RdOk L (n + 1) (addE x line col text) zs := by
  rcases List.eq_nil_or_concat ys with e | ⟨zs, y, e⟩
  · exact absurd (by rw [h.cards, e]; rfl) hn
  · rw [List.concat_eq_append] at e
    subst e
    obtain ⟨c, ps⟩ := y
    have hc : x.cards = zs.map (·.1) ++ [c] := by rw [h.cards]; simp
    have hy := h.ok (c, ps) (by simp)
    obtain ⟨qs, q1, q2, q3, q4⟩ := addC_ok hy (line := line) (col := col) (text := text) hp (fun p hp => by rw [hl]; exact h.low (c, ps) (by simp) p hp)
    rw [XO hc]
    have hql : ∀ q ∈ qs, q.line = n := fun q hq => by rw [q2 q hq, hl]
    refine ⟨zs ++ [(addC c line col text, ps ++ qs)], ?_, ?_, ?_, ?_, ?_⟩
    · simp
    · intro y hy
      rcases List.mem_append.1 hy with hy | hy
      · exact h.ok y (by simp [hy])
      · rw [List.mem_singleton.1 hy]; exact q1
    · intro y hy
      rcases List.mem_append.1 hy with hy | hy
      · exact h.ne y (by simp [hy])
      · rw [List.mem_singleton.1 hy]
        have := h.ne (c, ps) (by simp)
        simp only at this ⊢
        intro e
        exact this (List.append_eq_nil_iff.1 e).1
    · have ha := h.asc
      have hf := h.flat
      simp only [List.flatMap_append, List.flatMap_cons, List.flatMap_nil, List.append_nil] at ha hf ⊢
      rw [← List.append_assoc]
      refine List.pairwise_append.2 ⟨ha, (List.pairwise_append.1 q1.asc).2.1, fun p hp q hq => ?_⟩
      rw [hql q hq]
      exact hf p hp
    · intro y hy p hp
      rcases List.mem_append.1 hy with hy | hy
      · have := h.low y (by simp [hy]) p hp; omega
      · rw [List.mem_singleton.1 hy] at hp
        simp only at hp
        rcases List.mem_append.1 hp with hp | hp
        · have := h.low (c, ps) (by simp) p hp; omega
        · rw [hql p hp]; omega
theorem take_ok {L : List Str} {n : Nat} {x : Rd} {ys : List (CardC × List PartC)} (h : RdOk L n x ys) {r : RowC} (hr : RowOk L n r) (hf : (takeE x r).2 = okF) : ∃ zs, RdOk L (n + 1) (takeE x r).1 zs := by
  have hb : ∀ {a b c : Int}, a ≠ 0 → ¬ ((⟨a, b, c⟩ : FaultC) = okF) := fun ha e => ha (congrArg FaultC.e e)
  unfold takeE at hf ⊢
  split at hf
  · exact absurd hf (hb (by decide))
  · rename_i c1
    rw [if_neg c1]
    split at hf
    · rename_i c2
      rw [if_pos c2]
      exact add_new h hr _
    · rename_i c2
      rw [if_neg c2]
      split at hf
      · exact absurd hf (hb (by decide))
      · rename_i c3
        rw [if_neg c3]
        split at hf
        · exact absurd hf (hb (by decide))
        · rename_i c4
          rw [if_neg c4]
          split at hf
          · rename_i c5
            rw [if_pos c5]
            exact add_more h c3 hr.line (fun t ht hl => by have := hr.part 1 t ht hl; rw [hr.line]; simpa using this)
          · rename_i c5
            rw [if_neg c5]
            exact add_more h c3 hr.line (fun t ht hl => by have := hr.part 0 t ht hl; rw [hr.line]; simpa using this)
theorem readL_ok {L : List Str} (dbg : Bool) : ∀ (ls : List Str) (n : Nat) (x : Rd) (ys : List (CardC × List PartC)), RdOk L n x ys → 1 ≤ n → n + ls.length ≤ L.length + 1 → (∀ j, j < ls.length → L.getD (n - 1 + j) [] = ls.getD j []) → (XZ dbg ls n x).2 = okF → ∃ m zs, RdOk L m (XZ dbg ls n x).1 zs
  | [], n, x, ys, h, _, _, _, _ => ⟨n, ys, h⟩
  | s :: ls, n, x, ys, h, h1, h2, h3, hf => by
    have e1 : ((n : Int) + 1) = ((n + 1 : Nat) : Int) := by omega
    have hs : L.getD (n - 1) [] = s := by have := h3 0 (by simp); simpa using this
    rw [List.length_cons] at h2
    have h3' : ∀ j, j < ls.length → L.getD (n + 1 - 1 + j) [] = ls.getD j [] := fun j hj => by
      have := h3 (j + 1) (by simp; omega)
      rw [show n - 1 + (j + 1) = n + 1 - 1 + j by omega] at this
      simpa using this
    cases hp : lineE s n dbg with
    | mk r q =>
      obtain ⟨cn, f⟩ := q
      by_cases hff : f = okF
      · cases cn with
        | false =>
          rw [readL_skip hp hff, e1] at hf ⊢
          exact readL_ok dbg ls (n + 1) x ys h.next (by omega) (by omega) h3' hf
        | true =>
          subst hff
          have hr : RowOk L n r := row_ok hp h1 (by omega) hs
          by_cases hg : (takeE x r).2 = okF
          · rw [readL_take hp rfl hg, e1] at hf ⊢
            obtain ⟨zs, hz⟩ := take_ok h hr hg
            exact readL_ok dbg ls (n + 1) _ zs hz (by omega) (by omega) h3' hf
          · rw [readL_bad hp rfl hg] at hf
            exact absurd hf hg
      · rw [readL_fault hp hff] at hf
        exact absurd hf hff
theorem splitNL_ne : ∀ s : Str, Qp s ≠ []
  | [] => by simp [Qp]
  | b :: s => by unfold Qp; split <;> (try split) <;> simp
theorem splitNL_cat : ∀ (a b : Str), Qp (a ++ 10 :: b) = Qp a ++ Qp b
  | [], b => by show Qp (10 :: b) = [] :: Qp b; rw [Qp, if_pos rfl]
  | x :: a, b => by
    rw [List.cons_append, Qp, Qp]
    by_cases h : x = 10
    · rw [if_pos h, if_pos h, splitNL_cat a b, List.cons_append]
    · rw [if_neg h, if_neg h, splitNL_cat a b]
      cases hq : Qp a with
      | nil => exact absurd hq (splitNL_ne a)
      | cons l ls => rfl
theorem splitNL_trim (s : Str) : Qp (XK s) = Qp s ∨ Qp s = Qp (XK s) ++ [[]] := by
  unfold XK
  by_cases h : s.getLast? = some 10
  · rw [if_pos h]
    refine .inr ?_
    obtain ⟨t, ht⟩ : ∃ t, s = t ++ [10] := by
      rcases List.eq_nil_or_concat s with e | ⟨t, x, e⟩
      · rw [e] at h; cases h
      · rw [List.concat_eq_append] at e
        rw [e, List.getLast?_append] at h
        cases h
        exact ⟨t, e⟩
    rw [ht, List.dropLast_concat, splitNL_cat]
    rfl
  · rw [if_neg h]; exact .inl rfl
theorem readE_parts {text : Str} {dbg : Bool} (hf : (readE text dbg).2 = okF) : ∃ n x ys, RdOk (Qp text) n x ys ∧ (readE text dbg).1 = ys.map (·.1) := by
  have h0 : RdOk (Qp text) 1 .start [] := ⟨rfl, by simp, by simp, .nil, by simp⟩
  have hpre : ∀ j, j < (Qp (XK text)).length → (Qp text).getD (1 - 1 + j) [] = (Qp (XK text)).getD j [] := fun j hj => by
    rw [Nat.sub_self, Nat.zero_add]
    rcases splitNL_trim text with e | e
    · rw [e]
    · rw [e, getD_l hj]
  have hlen : 1 + (Qp (XK text)).length ≤ (Qp text).length + 1 := by
    rcases splitNL_trim text with e | e
    · rw [e]; omega
    · rw [e, List.length_append]; omega
  by_cases hl : text.length ≤ 1048576
  · have hro := readL_ok (L := Qp text) dbg (Qp (XK text)) 1 .start [] h0 (Nat.le_refl _) hlen hpre
    cases hq : XZ dbg (Qp (XK text)) 1 .start with
    | mk x f =>
      by_cases hff : f = okF
      · subst hff
        have hq' : XZ dbg (Qp (XK text)) ((1 : Nat) : Int) .start = (x, okF) := hq
        rw [hq'] at hro
        obtain ⟨m, zs, hz⟩ := hro rfl
        cases ho : x.odd with
        | true =>
          rw [readE_odd hl hq ho] at hf
          exact absurd (congrArg FaultC.e hf) (show ¬ ((4 : Int) = 0) by decide)
        | false =>
          rw [readE_ok hl hq ho]
          exact ⟨m, x, zs, hz, hz.cards⟩
      · rw [readE_fault hl hq hff] at hf
        exact absurd hf hff
  · unfold readE at hf
    rw [if_pos (by omega)] at hf
    exact absurd (congrArg FaultC.e hf) (by decide)

end Go.Proofs.YtmadddihphkmoaaGreatDoor

/-
  Plain: the reference's Scan against Scan on what Read reads.
  Conditions: none.
-/
namespace Go.Proofs.YtmadddihphkmoaaGreatDoor
open Go.AM
open Go.Proofs
open Go.Col
open Go.Tok
open Go.RowKit (Below)
set_option maxRecDepth 100000

theorem read_valid {text : Str} {dbg : Bool} (hf : (readE text dbg).2 = okF) : ∀ c ∈ (readE text dbg).1, validC c = true := by
  obtain ⟨n, x, ys, ho, he⟩ := readE_parts hf
  rw [he]
  intro c hc
  obtain ⟨y, hy, rfl⟩ := List.mem_map.1 hc
  exact (ho.ok y hy).valid (ho.ne y hy)
/-! ### How much text Read puts together -/
theorem lenSum_app (a b : List CardC) : lenSum (a ++ b) = lenSum a + lenSum b := by
  unfold lenSum
  rw [List.map_append, List.sum_append]
theorem pad_empty {s : Str} (h : s.length ≤ 7) : Xr (((padE s).drop 7).take 65) = [] := by
  unfold Xr
  refine dropW_nil.2 (List.all_eq_true.2 ?_)
  intro b hb
  obtain ⟨j, hj, rfl⟩ := List.mem_iff_getElem.1 hb
  rw [List.getElem_take, List.getElem_drop]
  unfold padE sp
  rw [List.getElem_append_right (by omega), List.getElem_replicate]
  rfl
theorem row_cost (s : Str) (n : Int) (dbg : Bool) (h : (lineE s n dbg).2.1 = true) : (lineE s n dbg).1.text.length ≤ 9 * s.length := by
  obtain ⟨h1, h2⟩ := lineE_small (s := s) (line := n) (dbg := dbg)
  have h3 := (h2 h).1
  by_cases h8 : s.length ≤ 7
  · exfalso
    have hr : (rowE s n).text = [] := pad_empty h8
    revert h h3
    unfold lineE
    split
    · intro q; cases q
    · split
      · intro q; cases q
      · simp only
        split
        · intro _ q; exact q hr
        · split
          · intro _ q; exact q hr
          · split
            · intro _ q; exact q hr
            · intro _ q; exact q hr
  · omega
theorem addE_cost (x : Rd) (line col : Int) (t : Str) : lenSum (addE x line col t).cards ≤ lenSum x.cards + t.length := by
  rcases List.eq_nil_or_concat x.cards with e | ⟨l, c, e⟩
  · have : addE x line col t = x := by unfold addE; rw [e]; rfl
    rw [this]
    omega
  · rw [List.concat_eq_append] at e
    rw [XO e, e]
    have h1 := trimR_le t
    simp only [lenSum_app]
    have : lenSum [addC c line col t] ≤ lenSum [c] + t.length := by
      unfold lenSum addC
      simp only [List.map_cons, List.map_nil, List.sum_cons, List.sum_nil, List.length_append]
      split <;> omega
    omega
theorem takeE_cost (x : Rd) (r : RowC) : lenSum (Col.takeE x r).1.cards ≤ lenSum x.cards + r.text.length := by
  unfold Col.takeE
  split
  · exact Nat.le_add_right _ _
  · split
    · have := addE_cost { x with cards := x.cards ++ [⟨decide (r.col < 12), [], []⟩] } r.line r.col r.text
      simp only [lenSum_app] at this
      have e : lenSum [⟨decide (r.col < 12), [], []⟩] = 0 := rfl
      rw [e] at this
      exact this
    · split
      · exact Nat.le_add_right _ _
      · split
        · exact Nat.le_add_right _ _
        · split
          · have := addE_cost x r.line (r.col + 1) (r.text.drop 1)
            rw [List.length_drop] at this
            simp only
            omega
          · exact addE_cost x r.line r.col r.text
def lineSum (ls : List Str) : Nat := (ls.map List.length).sum
theorem readL_cost (dbg : Bool) : ∀ (ls : List Str) (n : Int) (x : Rd), lenSum (XZ dbg ls n x).1.cards ≤ lenSum x.cards + 9 * lineSum ls
  | [], _, x => Nat.le_add_right _ _
  | s :: ls, n, x => by
    have hs : lineSum (s :: ls) = s.length + lineSum ls := by unfold lineSum; rw [List.map_cons, List.sum_cons]
    have hc := row_cost s n dbg
    rw [XZ]
    cases hp : lineE s n dbg with
    | mk r q =>
      obtain ⟨cn, f⟩ := q
      rw [hp] at hc
      simp only at hc ⊢
      split
      · have := readL_cost dbg ls (n + 1) x
        omega
      · rename_i q1
        split
        · rename_i q2
          have hcn : cn = true := by
            cases cn with
            | true => rfl
            | false => exact absurd ⟨q2, rfl⟩ q1
          have ht := takeE_cost x r
          have hr := hc hcn
          split
          · have := readL_cost dbg ls (n + 1) (Col.takeE x r).1
            omega
          · simp only
            omega
        · simp only
          omega
theorem splitNL_sum : ∀ s : Str, lineSum (Qp s) ≤ s.length
  | [] => Nat.le_refl _
  | b :: s => by
    have ih := splitNL_sum s
    rw [Qp]
    split
    · unfold lineSum at ih ⊢
      rw [List.map_cons, List.sum_cons, List.length_cons, List.length_nil]
      omega
    · split
      · unfold lineSum
        simp
      · rename_i l ls e
        rw [e] at ih
        unfold lineSum at ih ⊢
        rw [List.map_cons, List.sum_cons] at ih ⊢
        simp only [List.length_cons]
        omega
theorem read_cost (text : Str) (dbg : Bool) : lenSum (readE text dbg).1 ≤ 9 * text.length := by
  have h := readL_cost dbg (Qp (XK text)) 1 .start
  have h1 := splitNL_sum (XK text)
  have h2 := trimNL_len text
  have h3 : lenSum Rd.start.cards = 0 := rfl
  have h4 : lenSum [] = 0 := rfl
  unfold readE
  split
  · exact Nat.zero_le _
  · simp only
    split
    · exact Nat.zero_le _
    · split
      · exact Nat.zero_le _
      · simp only
        omega
end Go.Proofs.YtmadddihphkmoaaGreatDoor

/-
  Contracts: Same.
  Conditions: none.
-/
namespace Go.Proofs.YtmadddihphkmoaaGreatDoor
open Go.AM
open Go.Proofs
open Go.Col
open Go.Tok
open Go.RowKit (Below)
set_option maxRecDepth 100000

def sameT (a b : TokC) : Bool := decide (a.kind = b.kind) && decide (a.text = b.text)
def sameE : List TokC → List TokC → Bool
  | [], [] => true
  | a :: l, b :: m => sameT a b && sameE l m
  | _, _ => false
theorem sameE_len : ∀ {l m : List TokC}, l.length ≠ m.length → sameE l m = false
  | [], [], h => absurd rfl h
  | [], _ :: _, _ => rfl
  | _ :: _, [], _ => rfl
  | a :: l, b :: m, h => by
    rw [sameE, sameE_len (l := l) (m := m) (fun e => h (by simp [e])), Bool.and_false]
theorem sameE_step {l m : List TokC} {i : Nat} (h1 : i < l.length) (h2 : i < m.length) : sameE (l.drop i) (m.drop i) = (sameT (l.getD i badT) (m.getD i badT) && sameE (l.drop (i + 1)) (m.drop (i + 1))) := by
  rw [List.drop_eq_getElem_cons h1, List.drop_eq_getElem_cons h2, sameE]
  simp [List.getD, h1, h2]
theorem c_same1 (w₀ : World) (h : AHeap) (a b : TokC) : ACall Tryz.prog w₀ 22 [.agg (Zc a), .agg (Zc b)] h (fun v h' => v = .bool (sameT a b) ∧ h' = h) := by
  unfold Zc
  have ek : decide ((a.kind.toNat : Int) = b.kind.toNat) = decide (a.kind = b.kind) := decide_eq_decide.2 ⟨fun q => UInt8.toNat_inj.1 (by omega), fun q => by rw [q]⟩
  refine qY (n := 17) (rs := [.tmp 4]) Tryz.func22 rfl rfl rfl rfl (Nat.le_of_ble_eq_true rfl) ?_
  simp only [Qf]
  refine awp_rseq [2, 3] (by rfl) fun K hK => ?_
  refine aOps_box (by rfl) (by rfl) (by rfl) fun k0q0 hk0q0 => ?_
  try have hf_0q0 : h k0q0 = none := by first | assumption | (simp only [AHeap.set_none] at hk0q0; simp only [hk0q0])
  skip
  refine aOps_box (by rfl) (by rfl) (by rfl) fun k0q1 hk0q1 => ?_
  have ne_0q1_0q0 : k0q1 ≠ k0q0 := by simp only [AHeap.set_none] at hk0q1; simp only [hk0q1, ne_eq, not_false_eq_true]
  try have hf_0q1 : h k0q1 = none := by first | assumption | (simp only [AHeap.set_none] at hk0q1; simp only [hk0q1])
  skip
  simp +decide only [qa, ev, qK, qH, putD, Slots.put, Slots.get, Slots.keep, if_true, if_false, true_and, ↓qc, qb, AVal.cells, Nat.zero_add]
  apply hK; clear hK K
  refine awp_rseq [4] (by rfl) fun K hK => ?_
  simp +decide only [qa, ev, qK, qH, putD, Slots.put, Slots.get, Slots.keep, if_true, if_false, true_and, ↓qF, qo, fa38_0, ↓qJ, Qb, qD ag36, ↓qw, qh, qP, cond_false, qm, Xo, ↓qg, qd, ↓XE, agP, Qm, qI, qG, qy, implies_true, fa38_1, ↓Zm, XY, agL_mk, agL_ld1, qD ag9, ↓QW, XR, cv_binr, XT, cp_binr, XN, pS_eql, ↓QN, Qw, Qg, QZ, Xj, ↓qc, qb, XG, ne_eq, not_false_eq_true, ne_0q1_0q0.symm, Xa, List.getD_cons_zero, List.getD_cons_succ, Nat.zero_add, qj, qE, ek]
  apply hK; clear hK K
  refine qU ?_
  refine qO h (by repeat (first | exact Sub.refl _ | assumption | refine Sub.trans_set ?_ (by assumption))) (Qd (Qe)) ?_
  simp +decide only [Slots.get, if_true, and_true, QD]
  rfl
theorem c_equalFunc (w₀ : World) (h : AHeap) (v w : AVal) (l m : List TokC) (hv : IsL w₀ h 5 v (l.map Zc)) (hw : IsL w₀ h 5 w (m.map Zc)) (hl : l.length ≤ 1099511627776) :
    ACall Tryz.prog w₀ 21 [v, w, .func 22 []] h (fun r h' => r = .bool (sameE l m) ∧ h' = h) := by
  have hlv := hv.live
  have hlw := hw.live
  have nv := tok_len hv
  have nw := tok_len hw
  refine qY (n := 32) (rs := [.tmp 6]) Tryz.func21 rfl rfl rfl rfl (Nat.le_of_ble_eq_true rfl) ?_
  simp only [Qf]
  refine awp_rseq [0, 1, 2] (by rfl) fun K hK => ?_
  simp +decide only [qa, ev, qK, qH, putD, Slots.put, Slots.keep, if_true, if_false, true_and, ↓qc, qb, Nat.zero_add, Nat.reduceAdd]
  apply hK; clear hK K
  refine qN ?_
  refine awp_rseq [0, 1, 2, 14] (by rfl) fun K hK => ?_
  simp +decide only [qa, ev, putD, Slots.put, Slots.get, Slots.keep, if_true, if_false, true_and, ↓qg, qd, ↓Xw, QH, ↓qw, qh, qP, cond_false, qm, pI_neq, nv, nw]
  apply hK; clear hK K
  refine qM (b := _) rfl (fun hb1 => ?_) (fun hb1 => ?_)
  · try simp only [decide_eq_false_iff_not, Bool.not_eq_true'] at hb1
    refine awp_rseq [6] (by rfl) fun K hK => ?_
    simp +decide only [qa, ev, qK, qH, putD, Slots.put, Slots.keep, if_true, if_false, true_and, ↓qc, qb]
    apply hK; clear hK K
    refine qU ?_
    try simp only [Ql]
    refine qO h (by repeat (first | exact Sub.refl _ | assumption | refine Sub.trans_set ?_ (by assumption))) (Qd (Qe)) ?_
    simp +decide only [Slots.get, if_true, and_true, QD]
    rw [sameE_len (by omega)]
  · try simp only [decide_eq_true_eq, Bool.not_eq_false'] at hb1
    have hlen : l.length = m.length := by omega
    refine qZ ?_
    change Awp _ _ _ _ _ _ _
    refine qN ?_
    refine awp_rseq [1, 2, 15, 16, 17] (by rfl) fun K hK => ?_
    simp +decide only [qa, ev, qK, qH, putD, Slots.put, Slots.get, Slots.keep, if_true, if_false, true_and, ↓qg, qd, ↓Xw, QH, nv]
    apply hK; clear hK K
    refine Qt ?_
    refine XW [1, 2, 15, 16, 17] (fun i : Nat => [(1, w), (2, .func 22 []), (15, v), (16, .int .i64 l.length), (17, .int .i64 i)]) (fun i : Nat => h) (fun i : Nat => i ≤ l.length ∧ sameE (l.drop i) (m.drop i) = sameE l m) (fun i : Nat => l.length - i) 0 (by rfl) (Sub.refl _) ⟨Nat.zero_le _, rfl⟩ ?_
    rintro i ⟨hi, hq⟩
    refine awp_rseq [1, 2, 15, 16, 17, 18] (by rfl) fun K hK => ?_
    simp +decide only [qa, ev, putD, Slots.put, Slots.get, Slots.keep, if_true, if_false, true_and, ↓qw, qh, qP, cond_false, qm, pI_lss]
    apply hK; clear hK K
    refine qN (qM (b := _) rfl (fun hb2 => ?_) (fun hb2 => ?_))
    · try simp only [decide_eq_true_eq] at hb2
      have hi' : i < l.length := by omega
      obtain ⟨lc, o, c, rfl⟩ := tok_open hv (by omega)
      obtain ⟨lc', o', c', rfl⟩ := tok_open hw (by omega)
      obtain ⟨e0, e1, e2, e3, e4⟩ := tok_at hv hi'
      obtain ⟨a, ha⟩ : ∃ a, a = l.getD i badT := ⟨_, rfl⟩
      obtain ⟨b, hb⟩ : ∃ b, b = m.getD i badT := ⟨_, rfl⟩
      have hst := sameE_step (l := l) (m := m) hi' (by omega)
      rw [hq] at hst
      rw [← ha] at e0 e1 e2 e3 e4 hst
      rw [← hb] at hst
      have e2' : rd w₀ h lc (o + i * 5 + 1 + 1) = .int .i64 a.line := e2
      have e3' : rd w₀ h lc (o + i * 5 + 1 + 1 + 1) = .int .i64 a.col := e3
      have e4' : rd w₀ h lc (o + i * 5 + 1 + 1 + 1 + 1) = .bool a.left := e4
      refine qZ ?_
      change Awp _ _ _ _ _ _ _
      refine qN ?_
      refine Qt ?_
      refine awp_rseq [1, 2, 7, 8, 15, 16, 17] (by rfl) fun K hK => ?_
      simp +decide only [ev, putD, Slots.put, Slots.get, if_true, if_false, true_and, ↓qg, qd, ↓QT, Qb, Qj Tryz.underlying25 Xi, ↓qJ, qi ag38 Xi, qf, qC, qj, qE, allLive, Bool.and_true, e0, e1, e2', e3', e4', Int.toNat_natCast]
      repeat (with_reducible refine And.intro ?_ ?_; · first | trivial | omega | (intro hg; simp only [Bool.and_eq_true, Bool.or_eq_true, Bool.not_eq_true', Bool.and_eq_false_iff, Bool.or_eq_false_iff, Bool.not_eq_false', decide_eq_true_eq, decide_eq_false_iff_not, XI] at hg; omega) )
      refine Qh ze38 (cs := [.int .u8 0, .str [], .int .i64 0, .int .i64 0, .bool false]) (by rfl) fun k5q3 hk5q3 => ?_
      try have hf_5q3 : h k5q3 = none := by first | assumption | (simp only [AHeap.set_none] at hk5q3; simp only [hk5q3])
      simp +decide only [ev, putD, Slots.put, Slots.get, if_true, if_false, true_and, ↓qc, qb]
      refine qp (by rfl) (by rfl) (by repeat (first | exact AHeap.set_same _ _ _ | assumption | refine (AHeap.set_ne _ _ (by first | assumption | exact Ne.symm (by assumption))).trans ?_)) Xi (by rfl) (by rfl) (by first | exact Nat.le_refl _ | decide | (simp; done) | (simp; omega)) (Nat.zero_le _) (by rfl) ?_
      simp only [AHeap.set_set, AVal.cells]
      simp +decide only [qa, ev, putD, Slots.get, Slots.keep, if_true, if_false, setAt, List.set_cons_zero, List.set_cons_succ, Nat.zero_add, Nat.reduceAdd]
      apply hK; clear hK K
      obtain ⟨H, hH⟩ : ∃ H, H = h.set k5q3 ⟨[.int .u8 a.kind.toNat, .str a.text, .int .i64 a.line, .int .i64 a.col, .bool a.left], 0⟩ := ⟨_, rfl⟩
      have hsH : Sub h H := by rw [hH]; exact Sub.set hk5q3
      obtain ⟨d0, d1, d2, d3, d4⟩ := tok_at (hw.mono hsH) (i := i) (by omega)
      rw [← hb] at d0 d1 d2 d3 d4
      have d2' : rd w₀ H lc' (o' + i * 5 + 1 + 1) = .int .i64 b.line := d2
      have d3' : rd w₀ H lc' (o' + i * 5 + 1 + 1 + 1) = .int .i64 b.col := d3
      have d4' : rd w₀ H lc' (o' + i * 5 + 1 + 1 + 1 + 1) = .bool b.left := d4
      rw [hH] at d0 d1 d2' d3' d4'
      refine awp_rseq [1, 2, 8, 9, 15, 16, 17] (by rfl) fun K hK => ?_
      simp +decide only [ev, putD, Slots.put, Slots.get, if_true, if_false, true_and, ↓qg, qd, ↓QT, Qb, Qj Tryz.underlying25 Xi, ↓qJ, qi ag38 Xi, qf, qC, qj, qE, allLive, Bool.and_true, d0, d1, d2', d3', d4', Int.toNat_natCast]
      repeat (with_reducible refine And.intro ?_ ?_; · first | trivial | omega | (intro hg; simp only [Bool.and_eq_true, Bool.or_eq_true, Bool.not_eq_true', Bool.and_eq_false_iff, Bool.or_eq_false_iff, Bool.not_eq_false', decide_eq_true_eq, decide_eq_false_iff_not, XI] at hg; omega) )
      refine Qh ze38 (cs := [.int .u8 0, .str [], .int .i64 0, .int .i64 0, .bool false]) (by rfl) fun k6q4 hk6q4 => ?_
      have ne_6q4_5q3 : k6q4 ≠ k5q3 := by simp only [AHeap.set_none] at hk6q4; simp only [hk6q4, ne_eq, not_false_eq_true]
      try have hf_6q4 : h k6q4 = none := by first | assumption | (simp only [AHeap.set_none] at hk6q4; simp only [hk6q4])
      refine qp (by rfl) (by rfl) (by repeat (first | exact AHeap.set_same _ _ _ | assumption | refine (AHeap.set_ne _ _ (by first | assumption | exact Ne.symm (by assumption))).trans ?_)) Xi (by rfl) (by rfl) (by first | exact Nat.le_refl _ | decide | (simp; done) | (simp; omega)) (Nat.zero_le _) (by rfl) ?_
      simp only [AHeap.set_set, AVal.cells]
      simp +decide only [qa, ev, putD, Slots.put, Slots.get, Slots.keep, if_true, if_false, setAt, List.set_cons_zero, List.set_cons_succ, Nat.zero_add, Nat.reduceAdd]
      apply hK; clear hK K
      refine awp_rseq [1, 2, 15, 16, 17, 30] (by rfl) fun K hK => ?_
      simp +decide only [ev, putD, Slots.put, Slots.get, if_true, if_false, true_and, ↓qg, qd, ↓qJ, Qb, qi ag38 Xi, XG, ne_eq, not_false_eq_true, ne_6q4_5q3.symm, Xa, qf, List.getD_cons_zero, List.getD_cons_succ, Nat.zero_add, Nat.reduceAdd, qC, qj, qE, allLive, Bool.and_true]
      refine qL (V := .bool (sameT a b)) (by rfl) (by rfl) (c_same1 w₀ _ a b) ?_
      simp +decide only [qa, ev, putD, Slots.put, Slots.get, Slots.keep, if_true, if_false, true_and, ↓ap_unOp, pop_unOp, pU_not]
      apply hK; clear hK K
      refine qM (b := _) rfl (fun hb3 => ?_) (fun hb3 => ?_)
      · try simp only [Bool.not_eq_true'] at hb3
        refine awp_rseq [6] (by rfl) fun K hK => ?_
        simp +decide only [qa, ev, qK, qH, putD, Slots.put, Slots.keep, if_true, if_false, true_and, ↓qc, qb]
        apply hK; clear hK K
        refine qU ?_
        try simp only [Ql, QA]
        refine qO h (by repeat (first | exact Sub.refl _ | assumption | refine Sub.trans_set ?_ (by assumption))) (Qd (Qe)) ?_
        simp +decide only [Slots.get, if_true, and_true, QD]
        rw [hst, hb3, Bool.false_and]
      · try simp only [Bool.not_eq_false'] at hb3
        refine qZ ?_
        change Awp _ _ _ _ _ _ _
        refine Xl [1, 2, 15, 16, 17] (by rfl) ?_
        simp +decide only [qa, ev, qK, qH, putD, Slots.put, Slots.get, Slots.keep, if_true, if_false, true_and, ↓qw, qh, qz, cond_false, qm, Xk, ↓qg, qd]
        try simp (disch := omega) only [wrap_i64]
        try simp only [qR]
        exact ⟨i + 1, rfl, (by repeat (first | exact Sub.refl _ | assumption | refine Sub.set_both ?_ _ _ | refine Sub.trans_set ?_ (by repeat (first | assumption | refine (AHeap.set_ne _ _ (by first | assumption | exact Ne.symm (by assumption))).trans ?_)))), ⟨hi', by rw [hst, hb3, Bool.true_and]⟩, by omega⟩
    · try simp only [decide_eq_false_iff_not] at hb2
      refine Ze ?_
      change Awp _ _ _ _ _ _ _
      refine awp_rseq [6] (by rfl) fun K hK => ?_
      simp +decide only [qa, ev, qK, qH, putD, Slots.put, Slots.keep, if_true, if_false, true_and, ↓qc, qb]
      apply hK; clear hK K
      refine qU ?_
      refine qO h (by repeat (first | exact Sub.refl _ | assumption | refine Sub.trans_set ?_ (by assumption))) (Qd (Qe)) ?_
      simp +decide only [Slots.get, if_true, and_true, QD]
      rw [← hq, List.drop_eq_nil_of_le (by omega), List.drop_eq_nil_of_le (by omega)]
      rfl
theorem c_Same (w₀ : World) (h : AHeap) (v w : AVal) (l m : List TokC) (hv : IsL w₀ h 5 v (l.map Zc)) (hw : IsL w₀ h 5 w (m.map Zc)) (hl : l.length ≤ 1099511627776) :
    ACall Tryz.prog w₀ 11 [v, w] h (fun r h' => r = .bool (sameE l m) ∧ h' = h) := by
  have hlv := hv.live
  have hlw := hw.live
  refine qY (n := 8) (rs := [.tmp 4]) Tryz.func11 rfl rfl rfl rfl (Nat.le_of_ble_eq_true rfl) ?_
  simp only [Qf]
  refine awp_rseq [0, 1] (by rfl) fun K hK => ?_
  simp +decide only [qa, ev, qK, qH, putD, Slots.put, Slots.keep, if_true, if_false, true_and, ↓qc, qb]
  apply hK; clear hK K
  refine awp_rseq [4] (by rfl) fun K hK => ?_
  simp +decide only [ev, putD, Slots.put, Slots.get, if_true, if_false, true_and, ↓qg, qd]
  refine qL (V := .bool (sameE l m)) (by rfl) (by rfl) (c_equalFunc w₀ _ v w l m hv hw hl) ?_
  simp +decide only [qa, ev, putD, Slots.put, Slots.get, Slots.keep, if_true, if_false, true_and, ↓qc, qb]
  apply hK; clear hK K
  refine qU ?_
  refine qO _ (Sub.refl _) (Qd (Qe)) ?_
  simp +decide only [Slots.get, if_true, and_true, QD]
  all_goals first | rfl | exact ⟨rfl, rfl⟩ | (simp +decide only [if_true, if_false, *]; done) | (trace_state; fail)
end Go.Proofs.YtmadddihphkmoaaGreatDoor

/-
  The statement ColumnsMarks, walked.
  Conditions: none.
-/
namespace Go.Proofs.YtmadddihphkmoaaGreatDoor
open Go.AM
open Go.Proofs
open Go.Col
set_option maxRecDepth 100000

end Go.Proofs.YtmadddihphkmoaaGreatDoor

/-
  Plain law: ignored lines, the columns 1 to 6 and those from 73 on change nothing but positions.
  Conditions: none.
-/
namespace Go.Proofs.YtmadddihphkmoaaGreatDoor
open Go.AM
open Go.Proofs
open Go.Col
set_option maxRecDepth 100000

def Skip (dbg : Bool) (s : Str) : Prop := ∀ n : Int, (lineE s n dbg).2.1 = false ∧ (lineE s n dbg).2.2 = okF

theorem readL_last {dbg : Bool} {t : Str} (ht : Skip dbg t) : ∀ (l : List Str) (n : Int) (x : Rd), XZ dbg (l ++ [t]) n x = XZ dbg l n x
  | [], n, x => by
    cases hp : lineE t n dbg with
    | mk r q =>
      obtain ⟨cn, f⟩ := q
      obtain ⟨h1, h2⟩ := ht n
      rw [hp] at h1 h2
      simp only at h1 h2
      subst h1 h2
      rw [List.nil_append, readL_skip hp rfl]
      rfl
  | s :: l, n, x => by
    rw [List.cons_append, XZ, XZ]
    cases lineE s n dbg with
    | mk r q =>
      obtain ⟨cn, f⟩ := q
      simp only [readL_last ht l]
theorem skip_of {dbg : Bool} {s : Str} (h : ¬ 80 < s.length) (hb : badAt s = none) (hk : ((padE s).getD 6 0 = 42 ∨ (padE s).getD 6 0 = 47) ∨ (((padE s).getD 6 0 = 68 ∨ (padE s).getD 6 0 = 100) ∧ dbg = false) ∨ (((padE s).getD 6 0 = 32 ∨ (padE s).getD 6 0 = 45) ∧ Xr (((padE s).drop 7).take 65) = [])) : Skip dbg s := by
  intro n
  rw [lineE_none h hb]
  have ht : (rowE s n).text = Xr (((padE s).drop 7).take 65) := rfl
  rw [ht]
  rcases hk with hk | hk | hk
  · rw [if_pos hk]; exact ⟨rfl, rfl⟩
  · by_cases h1 : (padE s).getD 6 0 = 42 ∨ (padE s).getD 6 0 = 47
    · rw [if_pos h1]; exact ⟨rfl, rfl⟩
    · rw [if_neg h1, if_pos hk.1]
      exact ⟨by rw [hk.2]; rfl, rfl⟩
  · have h1 : ¬ ((padE s).getD 6 0 = 42 ∨ (padE s).getD 6 0 = 47) := by rcases hk.1 with e | e <;> rw [e] <;> decide
    have h2 : ¬ ((padE s).getD 6 0 = 68 ∨ (padE s).getD 6 0 = 100) := by rcases hk.1 with e | e <;> rw [e] <;> decide
    rw [if_neg h1, if_neg h2, if_pos hk.1, hk.2]
    exact ⟨rfl, rfl⟩
/-- The lines that are inserted. -/
def moreL : List Str := [[], [32, 32, 32, 32, 32, 32, 42, 34], [32, 32, 32, 32, 32, 32, 47, 97, 110, 121, 116, 104, 105, 110, 103], [32, 32, 32, 32, 32, 32, 68, 32, 32, 32, 32, 88], [32, 32, 32, 32, 32, 32, 100, 88], sp 80, [49, 50, 51, 52, 53, 54], [32, 32, 32, 32, 32, 32, 45]]
theorem more_skip : ∀ i, i < 8 → Skip false (moreL.getD i [])
  | 0, _ => skip_of (by decide) (by decide) (by decide)
  | 1, _ => skip_of (by decide) (by decide) (by decide)
  | 2, _ => skip_of (by decide) (by decide) (by decide)
  | 3, _ => skip_of (by decide) (by decide) (by decide)
  | 4, _ => skip_of (by decide) (by decide) (by decide)
  | 5, _ => skip_of (by decide) (by decide) (by decide)
  | 6, _ => skip_of (by decide) (by decide) (by decide)
  | 7, _ => skip_of (by decide) (by decide) (by decide)
  | n + 8, h => by omega
theorem nil_skip : Skip false [] := more_skip 0 (by decide)
theorem bad_none (s : Str) : badAt s = none ↔ s.all okB = true := by
  unfold badAt
  rw [List.findIdx?_eq_none_iff, List.all_eq_true]
  simp only [Bool.not_eq_eq_eq_not, Bool.not_false]
theorem sp_all (n : Nat) : (sp n).all okB = true := by
  unfold sp
  rw [List.all_eq_true]
  intro b hb
  rw [(List.mem_replicate.1 hb).2]
  decide
theorem readL_trim (s : Str) (n : Int) (x : Rd) : XZ false (Qp (XK s)) n x = XZ false (Qp s) n x := by
  rcases splitNL_trim s with e | e
  · rw [e]
  · rw [e, readL_last nil_skip]
end Go.Proofs.YtmadddihphkmoaaGreatDoor

/-
  Plain law: what Write lays out reads back.
  Conditions: none.
-/
namespace Go.Proofs.YtmadddihphkmoaaGreatDoor
open Go.AM
open Go.Proofs
open Go.Col
set_option maxRecDepth 100000

/-- An output line without its end. -/
def lineS (n : Nat) (mark : Str) (col : Nat) (text : Str) : Str := List.replicate (6 - (digs (n % 1000000)).length) 48 ++ digs (n % 1000000) ++ mark ++ sp (col - 8) ++ text
theorem outE_line (n : Nat) (mark : Str) (col : Nat) (text : Str) : outE n mark col text = lineS n mark col text ++ [10] := rfl
def textL : Nat → Nat → Str → Bool → Nat → Str → List Str
  | 0, _, _, _, _, _ => []
  | f + 1, col, mark, q, k, s =>
    if s.length ≤ 73 - col - (if q = true then 1 else 0) then [lineS (k + 1) mark col ((if q = true then [34] else []) ++ s)]
    else if 0 < Xn s (73 - col - (if q = true then 1 else 0)) q then lineS (k + 1) mark col ((if q = true then [34] else []) ++ s.take (Xn s (73 - col - (if q = true then 1 else 0)) q)) :: textL f 12 [32] false (k + 1) (Xr (s.drop (Xn s (73 - col - (if q = true then 1 else 0)) q)))
    else lineS (k + 1) mark col ((if q = true then [34] else []) ++ s.take (73 - col - (if q = true then 1 else 0))) :: textL f 12 [45] (q != Qy (s.take (73 - col - (if q = true then 1 else 0)))) (k + 1) (s.drop (73 - col - (if q = true then 1 else 0)))
def endL : List Str → Str
  | [] => []
  | l :: ls => l ++ 10 :: endL ls
theorem textE_lines : ∀ (f col : Nat) (mark : Str) (q : Bool) (k : Nat) (out s : Str), (textE f col mark q k out s).2 = out ++ endL (textL f col mark q k s)
  | 0, _, _, _, _, out, _ => (List.append_nil out).symm
  | f + 1, col, mark, q, k, out, s => by
    by_cases h : s.length ≤ 73 - col - (if q = true then 1 else 0)
    · rw [textE_short h, textL, if_pos h]
      rfl
    · by_cases h2 : 0 < Xn s (73 - col - (if q = true then 1 else 0)) q
      · rw [textE_space h h2, textL, if_neg h, if_pos h2, textE_lines f, endL, outE_line]
        simp only [List.append_assoc, List.cons_append, List.nil_append]
      · rw [textE_cut h h2, textL, if_neg h, if_neg h2, textE_lines f, endL, outE_line]
        simp only [List.append_assoc, List.cons_append, List.nil_append]
theorem endL_split : ∀ {ls : List Str}, (∀ l ∈ ls, (10 : UInt8) ∉ l) → Qp (endL ls) = ls ++ [[]]
  | [], _ => rfl
  | l :: ls, h => by
    rw [endL, splitNL_app _ (h l (by simp)), endL_split fun x hx => h x (by simp [hx])]
    rfl
theorem endL_trim {ls : List Str} (h : ∀ l ∈ ls, (10 : UInt8) ∉ l) : XZ false (Qp (XK (endL ls))) 1 .start = XZ false ls 1 .start := by
  rw [readL_trim, endL_split h, readL_last nil_skip]

/-! ### A line's row -/
theorem digs_ok : ∀ n : Nat, (Lib.decDigits n).all okB = true := by
  intro n
  induction n using Nat.strongRecOn with
  | _ n ih =>
    have hd : ∀ k, k < 10 → okB (UInt8.ofNat (48 + k)) = true := by
      intro k hk
      match k, hk with
      | 0, _ => decide
      | 1, _ => decide
      | 2, _ => decide
      | 3, _ => decide
      | 4, _ => decide
      | 5, _ => decide
      | 6, _ => decide
      | 7, _ => decide
      | 8, _ => decide
      | 9, _ => decide
    by_cases h : n < 10
    · rw [Lib.decDigits_one h, List.all_cons, hd n h]; rfl
    · rw [Lib.decDigits, dif_neg h, List.all_append, ih _ (by omega), List.all_cons, hd _ (Nat.mod_lt _ (by decide))]
      rfl
theorem lineS_len (n : Nat) (m : UInt8) (col : Nat) (t : Str) : (lineS n [m] col t).length = 7 + (col - 8) + t.length := by
  have := outE_len n col [m] t
  rw [outE_line, List.length_append, List.length_cons, List.length_nil, List.length_cons, List.length_nil] at this
  omega
theorem lineS_ok {n : Nat} {m : UInt8} {col : Nat} {t : Str} (hm : okB m = true) (ht : t.all okB = true) : (lineS n [m] col t).all okB = true := by
  unfold lineS digs
  have h1 : (List.replicate (6 - (Lib.decDigits (n % 1000000)).length) (48 : UInt8)).all okB = true := by
    rw [List.all_eq_true]
    intro b hb
    rw [(List.mem_replicate.1 hb).2]
    decide
  rw [List.all_append, List.all_append, List.all_append, List.all_append, h1, digs_ok, sp_all, ht, List.all_cons, hm]
  rfl
theorem trimL_sp (k : Nat) {t : Str} (h : t.head? ≠ some 32) : Xr (sp k ++ t) = t := by
  induction k with
  | zero =>
    cases t with
    | nil => rfl
    | cons b t =>
      have hb : b ≠ 32 := fun e => h (by rw [e]; rfl)
      show Xr (b :: t) = b :: t
      simp [Xr, hb]
  | succ k ih =>
    have : sp (k + 1) ++ t = 32 :: (sp k ++ t) := by simp [sp, List.replicate_succ]
    rw [this]
    have : Xr (32 :: (sp k ++ t)) = Xr (sp k ++ t) := by simp [Xr]
    rw [this, ih]
theorem row_line {k : Nat} {m : UInt8} {col : Nat} {t : Str} (n : Int) (hm : m = 32 ∨ m = 45) (hc : 8 ≤ col) (ht : t.all okB = true) (h0 : t ≠ []) (h1 : t.head? ≠ some 32) (hl : t.length + col ≤ 73) :
    lineE (lineS k [m] col t) n false = (⟨n, m == 45, t ++ sp (73 - col - t.length), (col : Int)⟩, true, okF) := by
  have hpos := List.length_pos_iff.2 h0
  have hlen := lineS_len k m col t
  have hdl := digs_len k
  have hpad : padE (lineS k [m] col t) = (List.replicate (6 - (digs (k % 1000000)).length) 48 ++ digs (k % 1000000)) ++ m :: (sp (col - 8) ++ (t ++ sp (73 - col - t.length))) := by
    unfold padE
    rw [hlen, show 72 - (7 + (col - 8) + t.length) = 73 - col - t.length by omega]
    unfold lineS
    simp only [List.append_assoc, List.cons_append, List.nil_append]
  have h6 : (List.replicate (6 - (digs (k % 1000000)).length) (48 : UInt8) ++ digs (k % 1000000)).length = 6 := by
    rw [List.length_append, List.length_replicate]; omega
  obtain ⟨P, hP⟩ : ∃ P, P = List.replicate (6 - (digs (k % 1000000)).length) (48 : UInt8) ++ digs (k % 1000000) := ⟨_, rfl⟩
  rw [← hP] at hpad h6
  have g6 : (padE (lineS k [m] col t)).getD 6 0 = m := by
    rw [hpad, getD_r (by omega), h6]; rfl
  have g7 : ((padE (lineS k [m] col t)).drop 7).take 65 = sp (col - 8) ++ (t ++ sp (73 - col - t.length)) := by
    rw [hpad, show 7 = P.length + 1 by omega, ← List.drop_drop, List.drop_left' rfl, List.drop_one, List.tail_cons]
    refine List.take_of_length_le ?_
    simp only [List.length_append, sp, List.length_replicate]
    omega
  have hh : (t ++ sp (73 - col - t.length)).head? ≠ some 32 := by
    cases t with
    | nil => exact absurd rfl h0
    | cons b t => exact h1
  have hrow : rowE (lineS k [m] col t) n = ⟨n, m == 45, t ++ sp (73 - col - t.length), (col : Int)⟩ := by
    unfold rowE
    rw [g6, g7, trimL_sp _ hh]
    congr 1
    simp only [List.length_append, sp, List.length_replicate]
    omega
  have hne : ¬ (t ++ sp (73 - col - t.length)) = [] := by
    intro e
    exact h0 (List.append_eq_nil_iff.1 e).1
  rw [lineE_none (by omega) ((bad_none _).2 (lineS_ok (by rcases hm with rfl | rfl <;> decide) ht)), g6, hrow]
  have n1 : ¬ (m = 42 ∨ m = 47) := by rcases hm with rfl | rfl <;> decide
  have n2 : ¬ (m = 68 ∨ m = 100) := by rcases hm with rfl | rfl <;> decide
  rw [if_neg n1, if_neg n2, if_pos hm]
  simp only [hne, decide_false, Bool.not_false]

/-! ### Squeezing -/
def lastSp (p : Bool) (u : Str) : Bool := match u.getLast? with | none => p | some b => decide (b = 32)
theorem lastSp_cons (p : Bool) (b : UInt8) (u : Str) : lastSp p (b :: u) = lastSp (decide (b = 32)) u := by
  unfold lastSp
  cases u with
  | nil => rfl
  | cons c u => rw [List.getLast?_cons_cons]; cases h : (c :: u).getLast? with
    | none => simp at h
    | some x => rfl
theorem sq_app : ∀ (u v : Str) (q p : Bool), sqGo q p (u ++ v) = sqGo q p u ++ sqGo (q != Qy u) (lastSp p u) v
  | [], v, q, p => by
    rw [List.nil_append, sqGo]
    have : (q != Qy []) = q := by cases q <;> rfl
    rw [this]
    rfl
  | b :: u, v, q, p => by
    have e : (q != Qy (b :: u)) = ((if b = 34 then !q else q) != Qy u) := by
      rw [oddQ_cons]
      split
      · cases q <;> cases Qy u <;> rfl
      · rfl
    rw [List.cons_append, sqGo, sqGo, sq_app u v, lastSp_cons, e]
    obtain ⟨q', hq'⟩ : ∃ q', q' = (if b = 34 then !q else q) := ⟨_, rfl⟩
    rw [← hq']
    by_cases hc : b = 32 ∧ q' = false ∧ p = true
    · rw [if_pos hc, if_pos hc]
    · rw [if_neg hc, if_neg hc, List.cons_append]
theorem sq_sp : ∀ (m : Nat) (v : Str), sqGo false true (sp m ++ v) = sqGo false true v
  | 0, v => rfl
  | m + 1, v => by
    have : sp (m + 1) ++ v = 32 :: (sp m ++ v) := by simp [sp, List.replicate_succ]
    rw [this, sqGo, if_pos (by decide)]
    exact sq_sp m v
theorem sq_sp1 (m : Nat) (p : Bool) (v w : Str) (h : sqGo false true v = sqGo false true w) : sqGo false p (32 :: v) = sqGo false p (sp (m + 1) ++ w) := by
  have : sp (m + 1) ++ w = 32 :: (sp m ++ w) := by simp [sp, List.replicate_succ]
  have e : (if (32 : UInt8) = 34 then !false else false) = false := by decide
  have e2 : decide ((32 : UInt8) = 32) = true := by decide
  rw [this, sqGo, sqGo, e, e2, sq_sp, h]
theorem oddQ_sp (m : Nat) : Qy (sp m) = false := by
  induction m with
  | zero => rfl
  | succ m ih =>
    have : sp (m + 1) = 32 :: sp m := by simp [sp, List.replicate_succ]
    rw [this, oddQ_cons, if_neg (by decide), ih]
theorem trimR_split (s : Str) : ∃ m, s = trimR s ++ sp m := by
  obtain ⟨m, h, _⟩ := trimL_split s.reverse
  refine ⟨m, ?_⟩
  have := congrArg List.reverse h
  rw [List.reverse_reverse, List.reverse_append, List.reverse_replicate] at this
  exact this
theorem trimR_sp (s : Str) (m : Nat) : trimR (s ++ sp m) = trimR s := by
  have e : ∀ (m : Nat) (u : Str), Xr (sp m ++ u) = Xr u := by
    intro m
    induction m with
    | zero => intro u; rfl
    | succ m ih =>
      intro u
      have : sp (m + 1) ++ u = 32 :: (sp m ++ u) := by simp [sp, List.replicate_succ]
      rw [this]
      have : Xr (32 :: (sp m ++ u)) = Xr (sp m ++ u) := by simp [Xr]
      rw [this, ih]
  unfold trimR
  have : (s ++ sp m).reverse = sp m ++ s.reverse := by rw [List.reverse_append]; simp [sp]
  rw [this]
  have := e m s.reverse
  unfold Xr at this
  rw [this]
theorem trimR_id {s : Str} (h : s.getLast? ≠ some 32) : trimR s = s := by
  obtain ⟨m, e⟩ := trimR_split s
  cases m with
  | zero => rw [show sp 0 = [] from rfl, List.append_nil] at e; exact e.symm
  | succ m =>
    refine absurd ?_ h
    rw [e]
    have : sp (m + 1) = sp m ++ [32] := by simp [sp, List.replicate_succ']
    rw [this, ← List.append_assoc, List.getLast?_append]
    rfl

/-! ### Reading back -/
def jT : List CardC → Str
  | [] => []
  | c :: r => c.text ++ r.flatMap fun d => 32 :: d.text
theorem jT_new {l : List CardC} (d : CardC) : jT (l ++ [d]) = jT l ++ (if l ≠ [] then [32] else []) ++ d.text := by
  cases l with
  | nil => simp [jT]
  | cons c r => simp [jT, List.flatMap_append]
theorem jT_more {l : List CardC} {c d : CardC} {t : Str} (h : d.text = c.text ++ t) : jT (l ++ [d]) = jT (l ++ [c]) ++ t := by
  rw [jT_new, jT_new, h]
  simp only [List.append_assoc]
/-- The reader's state ahead of a line with a mark. -/
def Ahead (x : Rd) (mark : Str) (q : Bool) (col : Nat) : Prop :=
  (mark = [32] ∧ q = false ∧ x.odd = false) ∨ (mark = [45] ∧ col = 12 ∧ ∃ l c, x.cards = l ++ [c] ∧ Qy c.text = q ∧ x.odd = q)
/-- One line is read: the part u joins the cards. -/
theorem read_one {x : Rd} {mark : Str} {q : Bool} {col : Nat} (ha : Ahead x mark q col) {k : Nat} {t : Str} (n : Int) (hc : col = 8 ∨ col = 12) (ht : t.all okB = true) (h0 : t ≠ []) (h1 : q = false → t.head? ≠ some 32) (hl : t.length + (if q = true then 1 else 0) + col ≤ 73)
    (hp : (q != Qy t) = true → t.length + (if q = true then 1 else 0) + col = 73) :
    ∃ y u, (∀ ls, XZ false (lineS k mark col ((if q = true then [34] else []) ++ t) :: ls) n x = XZ false ls (n + 1) y) ∧ u = (if (q != Qy t) = true then t else trimR t) ∧ y.odd = (q != Qy t) ∧ (∃ l c, y.cards = l ++ [c] ∧ Qy c.text = (q != Qy t)) ∧
      jT y.cards = jT x.cards ++ (if mark = [32] ∧ x.cards ≠ [] then [32] else []) ++ u ∧
      y.cards.map (·.left) = x.cards.map (·.left) ++ (if mark = [32] then [decide (col < 12)] else []) := by
  have hc8 : 8 ≤ col := by omega
  -- what is added to a card, with the padding
  have hadd : ∀ (c : CardC) (m : Nat) (line cl : Int), Qy c.text = q → ((q != Qy t) = true → m = 0) → (addC c line cl (t ++ sp m)).text = c.text ++ (if (q != Qy t) = true then t else trimR t) ∧ (addC c line cl (t ++ sp m)).left = c.left := by
    intro c m line cl hcq hm
    have e1 : Qy (c.text ++ (t ++ sp m)) = (q != Qy t) := by
      rw [XD, XD, oddQ_sp, hcq]
      cases Qy t <;> rfl
    unfold addC
    rw [e1]
    refine ⟨?_, rfl⟩
    simp only
    by_cases hq : (q != Qy t) = true
    · rw [if_pos hq, if_pos hq, hm hq]
      rw [show sp 0 = [] from rfl, List.append_nil]
    · rw [if_neg hq, if_neg hq, trimR_sp]
  have hoddu : ∀ c : Str, Qy c = q → Qy (c ++ (if (q != Qy t) = true then t else trimR t)) = (q != Qy t) := by
    intro c hcq
    rw [XD, hcq]
    split
    · rfl
    · obtain ⟨m, e⟩ := trimR_split t
      have : Qy t = Qy (trimR t) := by
        conv => lhs; rw [e]
        rw [XD, oddQ_sp]
        cases Qy (trimR t) <;> rfl
      rw [this]
  rcases ha with ⟨rfl, rfl, ho⟩ | ⟨rfl, rfl, l, c, hx, hcq, ho⟩
  · simp only [Bool.false_eq_true, if_false, List.nil_append, Nat.add_zero] at hl hp ⊢
    have hrow := row_line (k := k) (m := 32) n (.inl rfl) hc8 ht h0 (h1 rfl) hl
    have hmm : (false != Qy t) = true → 73 - col - t.length = 0 := fun e => by have := hp e; omega
    obtain ⟨a1, a2⟩ := hadd ⟨decide ((col : Int) < 12), [], []⟩ (73 - col - t.length) n (col : Int) rfl hmm
    have htk : takeE x ⟨n, (32 : UInt8) == 45, t ++ sp (73 - col - t.length), (col : Int)⟩ = (addE { x with cards := x.cards ++ [⟨decide ((col : Int) < 12), [], []⟩] } n (col : Int) (t ++ sp (73 - col - t.length)), okF) := by
      unfold takeE
      rw [ho, if_neg (by simp), if_pos (show (!((32 : UInt8) == 45)) = true from rfl)]
    refine ⟨addE { x with cards := x.cards ++ [⟨decide ((col : Int) < 12), [], []⟩] } n (col : Int) (t ++ sp (73 - col - t.length)), _, fun ls => ?_, rfl, ?_, ?_, ?_, ?_⟩
    · rw [readL_take hrow rfl (by rw [htk]), htk]
    · rw [XO (x := { x with cards := x.cards ++ [⟨decide ((col : Int) < 12), [], []⟩] }) rfl]
      simp only [List.nil_append]
      rw [XD, oddQ_sp]
      cases Qy t <;> rfl
    · rw [XO (x := { x with cards := x.cards ++ [⟨decide ((col : Int) < 12), [], []⟩] }) rfl]
      exact ⟨_, _, rfl, by rw [a1]; exact hoddu [] rfl⟩
    · rw [XO (x := { x with cards := x.cards ++ [⟨decide ((col : Int) < 12), [], []⟩] }) rfl]
      simp only
      rw [jT_new, a1]
      simp only [List.nil_append, true_and]
    · rw [XO (x := { x with cards := x.cards ++ [⟨decide ((col : Int) < 12), [], []⟩] }) rfl]
      simp only [List.map_append, List.map_cons, List.map_nil, a2, if_true]
      congr 2
      rw [decide_eq_decide]
      omega
  · have hl2 : ((if q = true then [34] else [] : Str) ++ t).length + 12 ≤ 73 := by
      rw [List.length_append]
      cases q <;> simp at hl ⊢ <;> omega
    have ht2 : ((if q = true then [34] else [] : Str) ++ t).all okB = true := by
      rw [List.all_append, ht]
      cases q <;> rfl
    have h02 : ((if q = true then [34] else [] : Str) ++ t) ≠ [] := fun e => h0 (List.append_eq_nil_iff.1 e).2
    have h12 : ((if q = true then [34] else [] : Str) ++ t).head? ≠ some 32 := by
      cases q
      · exact h1 rfl
      · simp
    have hrow := row_line (k := k) (m := 45) n (.inr rfl) hc8 ht2 h02 h12 hl2
    obtain ⟨mm, hmm0⟩ : ∃ mm, mm = 73 - 12 - ((if q = true then [34] else [] : Str) ++ t).length := ⟨_, rfl⟩
    rw [← hmm0] at hrow
    have hmm : (q != Qy t) = true → mm = 0 := fun e => by
      have := hp e
      rw [hmm0, List.length_append]
      cases q <;> simp at this ⊢ <;> omega
    have hne : x.cards ≠ [] := by rw [hx]; simp
    have hneq : ¬ ([45] : Str) = [32] := by decide
    have hz : (if ([45] : Str) = [32] ∧ x.cards ≠ [] then ([32] : Str) else []) = [] := if_neg (fun e => hneq e.1)
    cases q with
    | false =>
      simp only [Bool.false_eq_true, if_false, List.nil_append] at hrow ⊢
      obtain ⟨a1, a2⟩ := hadd c mm n ((12 : Nat) : Int) hcq hmm
      have htk : takeE x ⟨n, (45 : UInt8) == 45, t ++ sp mm, ((12 : Nat) : Int)⟩ = (addE x n ((12 : Nat) : Int) (t ++ sp mm), okF) := by
        unfold takeE
        rw [ho, if_neg (by simp), if_neg (by simp), if_neg hne, if_neg (by simp), if_neg (by simp)]
      refine ⟨addE x n ((12 : Nat) : Int) (t ++ sp mm), _, fun ls => ?_, rfl, ?_, ?_, ?_, ?_⟩
      · rw [readL_take hrow rfl (by rw [htk]), htk]
      · rw [XO hx]
        simp only
        rw [XD, XD, oddQ_sp, hcq]
        cases Qy t <;> rfl
      · rw [XO hx]
        exact ⟨_, _, rfl, by rw [a1]; exact hoddu _ hcq⟩
      · rw [XO hx]
        simp only
        rw [hz, jT_more (c := c) a1, ← hx, List.append_nil]
      · rw [XO hx, hx, if_neg hneq, List.append_nil]
        simp only [List.map_append, List.map_cons, List.map_nil, a2]
    | true =>
      simp only [if_true, List.cons_append, List.nil_append] at hrow ⊢
      obtain ⟨a1, a2⟩ := hadd c mm n (((12 : Nat) : Int) + 1) hcq hmm
      have htk : takeE x ⟨n, (45 : UInt8) == 45, 34 :: (t ++ sp mm), ((12 : Nat) : Int)⟩ = (addE x n (((12 : Nat) : Int) + 1) (t ++ sp mm), okF) := by
        unfold takeE
        rw [ho, if_neg (by simp), if_neg (by simp), if_neg hne, if_neg (by simp), if_pos rfl]
        rfl
      refine ⟨addE x n (((12 : Nat) : Int) + 1) (t ++ sp mm), _, fun ls => ?_, rfl, ?_, ?_, ?_, ?_⟩
      · rw [readL_take hrow rfl (by rw [htk]), htk]
      · rw [XO hx]
        simp only
        rw [XD, XD, oddQ_sp, hcq]
        cases Qy t <;> rfl
      · rw [XO hx]
        exact ⟨_, _, rfl, by rw [a1]; exact hoddu _ hcq⟩
      · rw [XO hx]
        simp only
        rw [hz, jT_more (c := c) a1, ← hx, List.append_nil]
      · rw [XO hx, hx, if_neg hneq, List.append_nil]
        simp only [List.map_append, List.map_cons, List.map_nil, a2]
end Go.Proofs.YtmadddihphkmoaaGreatDoor

/-
  Plain law: what Write lays out reads back, all lines.
  Conditions: none.
-/
namespace Go.Proofs.YtmadddihphkmoaaGreatDoor
open Go.AM
open Go.Proofs
open Go.Col
set_option maxRecDepth 100000

theorem all_take {s : Str} (h : s.all okB = true) (k : Nat) : (s.take k).all okB = true := by
  rw [List.all_eq_true] at h ⊢
  exact fun b hb => h b (List.mem_of_mem_take hb)
theorem all_drop {s : Str} (h : s.all okB = true) (k : Nat) : (s.drop k).all okB = true := by
  rw [List.all_eq_true] at h ⊢
  exact fun b hb => h b (List.mem_of_mem_drop hb)
theorem all_trimL {s : Str} (h : s.all okB = true) : (Xr s).all okB = true := by
  rw [trimL_drop]; exact all_drop h _
theorem head_trimL (s : Str) : (Xr s).head? ≠ some 32 := by obtain ⟨_, _, h⟩ := trimL_split s; exact h
theorem head_take {s : Str} {k : Nat} (hk : 0 < k) : (s.take k).head? = s.head? := by
  cases s with
  | nil => simp
  | cons b s => cases k with
    | zero => omega
    | succ k => rfl
theorem take_ne {s : Str} {k : Nat} (hk : 0 < k) (hs : s ≠ []) : s.take k ≠ [] := by
  cases s with
  | nil => exact absurd rfl hs
  | cons b s => cases k with
    | zero => omega
    | succ k => simp
theorem odd_split (s : Str) (k : Nat) : Qy s = (Qy (s.take k) != Qy (s.drop k)) := by
  rw [← XD, List.take_append_drop]
theorem odd_trimL (s : Str) : Qy (Xr s) = Qy s := by
  obtain ⟨m, h, _⟩ := trimL_split s
  conv => rhs; rw [h]
  have : List.replicate m (32 : UInt8) = sp m := rfl
  rw [this, XD, oddQ_sp]
  cases Qy (Xr s) <;> rfl
theorem drop_head {s : Str} {k : Nat} (hk : k < s.length) : (s.drop k).head? = some (s.getD k 0) := by
  rw [drop_getD 0 hk]; rfl
theorem take_last {s : Str} {k : Nat} (hk : k < s.length) : (s.take (k + 1)).getLast? = some (s.getD k 0) := by
  have e : s.take (k + 1) = s.take k ++ [s.getD k 0] := by
    rw [List.take_add_one, List.getElem?_eq_getElem hk]
    simp [List.getD, hk]
  rw [e, List.getLast?_append]
  rfl
theorem take_odd {s : Str} {k : Nat} (hk : k < s.length) (h : s.getD k 0 = 32) : Qy (s.take (k + 1)) = Qy (s.take k) := by
  have e : s.take (k + 1) = s.take k ++ [s.getD k 0] := by
    rw [List.take_add_one, List.getElem?_eq_getElem hk]
    simp [List.getD, hk]
  rw [e, h, XD]
  have : Qy [32] = false := by decide
  rw [this]
  cases Qy (s.take k) <;> rfl
theorem write_read : ∀ (f col : Nat) (mark : Str) (q : Bool) (k : Nat) (s : Str) (x : Rd) (n : Int), s.length < f → (col = 8 ∨ col = 12) → Ahead x mark q col → s.all okB = true → lastOk s → (q = false → s.head? ≠ some 32) → (q != Qy s) = false →
    ∃ y J m, XZ false (textL f col mark q k s) n x = (y, okF) ∧ y.odd = false ∧ jT y.cards = jT x.cards ++ (if mark = [32] ∧ x.cards ≠ [] then [32] else []) ++ J ∧ (∀ p, sqGo q p J = sqGo q p s) ∧ y.cards.map (·.left) = x.cards.map (·.left) ++ (if mark = [32] then [decide (col < 12)] else []) ++ List.replicate m false
  | 0, _, _, _, _, s, _, _, h, _, _, _, _, _, _ => by omega
  | f + 1, col, mark, q, k, s, x, n, hf, hc, ha, hs, hl, hh, hp => by
    obtain ⟨ld, hld⟩ : ∃ ld : Nat, ld = if q = true then 1 else 0 := ⟨_, rfl⟩
    obtain ⟨nn, hnn⟩ : ∃ nn, nn = 73 - col - ld := ⟨_, rfl⟩
    have hld1 : ld ≤ 1 := by rw [hld]; split <;> omega
    have hnn2 : 60 ≤ nn ∧ nn + ld + col = 73 := by omega
    rw [textL, ← hld, ← hnn]
    by_cases h1 : s.length ≤ nn
    · rw [if_pos h1]
      obtain ⟨y, u, r1, r2, r3, r4, r5, r6⟩ := read_one ha (k := k + 1) (t := s) n hc hs hl.1 hh (by rw [← hld]; omega) (fun e => by rw [hp] at e; cases e)
      rw [hp] at r3
      have hu : u = s := by rw [r2, hp]; simp only [Bool.false_eq_true, if_false]; exact trimR_id hl.2
      refine ⟨y, s, 0, by rw [r1]; rfl, r3, by rw [r5, hu], fun p => rfl, by rw [r6]; simp⟩
    · rw [if_neg h1]
      by_cases h2 : 0 < Xn s nn q
      · rw [if_pos h2]
        have hcut := spaceE_cut s q nn h2
        have hkn := (spaceE_le s nn q).1
        obtain ⟨kk, hkk⟩ : ∃ kk, kk = Xn s nn q := ⟨_, rfl⟩
        rw [← hkk] at h2 hcut hkn ⊢
        unfold cutAt at hcut
        simp only [Bool.and_eq_true, decide_eq_true_eq, beq_iff_eq] at hcut
        obtain ⟨⟨c1, c2⟩, c3⟩ := hcut
        have hq1 : (q != Qy (s.take kk)) = false := by rw [c3]; cases q <;> rfl
        obtain ⟨y, u, r1, r2, r3, ⟨l, c, r4, _⟩, r5, r6⟩ := read_one ha (k := k + 1) (t := s.take kk) n hc (all_take hs kk) (take_ne h2 hl.1) (fun e => by rw [head_take h2]; exact hh e) (by rw [← hld, List.length_take]; omega) (fun e => by rw [hq1] at e; cases e)
        rw [hq1] at r2 r3
        simp only [Bool.false_eq_true, if_false] at r2
        have hos : Qy (Xr (s.drop kk)) = false := by
          rw [odd_trimL]
          have := odd_split s kk
          rw [c3] at this
          rw [this] at hp
          revert hp
          cases q <;> cases Qy (s.drop kk) <;> decide
        have htl := trimL_le (s.drop kk)
        rw [List.length_drop] at htl
        obtain ⟨z, J, m, t1, t2, t3, t4, t5⟩ := write_read f 12 [32] false (k + 1) (Xr (s.drop kk)) y (n + 1) (by omega) (.inr rfl) (.inl ⟨rfl, rfl, r3⟩) (all_trimL (all_drop hs kk)) (lastOk_trimL (lastOk_drop hl c1)) (fun _ => head_trimL _) (by rw [hos]; rfl)
        have hyne : y.cards ≠ [] := by rw [r4]; simp
        refine ⟨z, u ++ 32 :: J, m + 1, by rw [r1, t1], t2, ?_, ?_, ?_⟩
        · have hz : (if ([32] : Str) = [32] ∧ y.cards ≠ [] then ([32] : Str) else []) = [32] := if_pos ⟨rfl, hyne⟩
          rw [t3, hz, r5]
          simp only [List.append_assoc, List.cons_append, List.nil_append]
        · intro p
          obtain ⟨a, ea⟩ := trimR_split (s.take kk)
          rw [← r2] at ea
          obtain ⟨b, eb, _⟩ := trimL_split (s.drop kk)
          have hb : 0 < b := by
            cases b with
            | zero =>
              rw [List.replicate_zero, List.nil_append] at eb
              have := drop_head c1
              rw [eb, c2] at this
              exact absurd this (head_trimL _)
            | succ b => omega
          have hsu : s = u ++ (sp ((a + b - 1) + 1) ++ Xr (s.drop kk)) := by
            have e1 : sp ((a + b - 1) + 1) = sp a ++ List.replicate b 32 := by
              rw [show a + b - 1 + 1 = a + b by omega]
              unfold sp
              rw [List.replicate_append_replicate]
            rw [e1, List.append_assoc, ← eb, ← List.append_assoc, ← ea, List.take_append_drop]
          have hou : (q != Qy u) = false := by
            rw [ea, XD, oddQ_sp] at hq1
            revert hq1
            cases q <;> cases Qy u <;> decide
          have e2 := sq_sp1 (a + b - 1) (lastSp p u) J (Xr (s.drop kk)) (t4 true)
          have e3 : sqGo q p s = sqGo q p (u ++ (sp ((a + b - 1) + 1) ++ Xr (s.drop kk))) := congrArg _ hsu
          rw [e3, sq_app, sq_app, hou, e2]
        · rw [t5, r6]
          simp only [if_true, List.append_assoc]
          rw [List.replicate_succ]
          rfl
      · rw [if_neg h2]
        have hnl : nn < s.length := by omega
        have hno := spaceE_none h2
        obtain ⟨q', hq'⟩ : ∃ q', q' = (q != Qy (s.take nn)) := ⟨_, rfl⟩
        have htl : (s.take nn).length = nn := by rw [List.length_take]; omega
        obtain ⟨y, u, r1, r2, r3, ⟨l, c, r4, r4'⟩, r5, r6⟩ := read_one ha (k := k + 1) (t := s.take nn) n hc (all_take hs nn) (take_ne (by omega) hl.1) (fun e => by rw [head_take (by omega)]; exact hh e) (by rw [← hld, htl]; omega) (fun _ => by rw [← hld, htl]; omega)
        rw [← hq'] at r2 r3 r4' ⊢
        have hu : u = s.take nn := by
          rw [r2]
          cases hqq : q' with
          | true => rfl
          | false =>
            simp only [Bool.false_eq_true, if_false]
            refine trimR_id ?_
            rw [show nn = (nn - 1) + 1 by omega, take_last (by omega)]
            intro e
            have e1 : s.getD (nn - 1) 0 = 32 := Option.some.inj e
            have := hno (nn - 1) (by omega) (by omega)
            unfold cutAt at this
            have ho := take_odd (s := s) (k := nn - 1) (by omega) e1
            rw [show nn - 1 + 1 = nn by omega] at ho
            rw [hqq, ho] at hq'
            rw [decide_eq_true (by omega), decide_eq_true e1] at this
            revert hq' this
            cases q <;> cases Qy (s.take (nn - 1)) <;> decide
        have hod := odd_split s nn
        have hpar : (q' != Qy (s.drop nn)) = false := by
          rw [hod] at hp
          rw [hq']
          revert hp
          cases q <;> cases Qy (s.take nn) <;> cases Qy (s.drop nn) <;> decide
        obtain ⟨z, J, m, t1, t2, t3, t4, t5⟩ := write_read f 12 [45] q' (k + 1) (s.drop nn) y (n + 1) (by rw [List.length_drop]; omega) (.inr rfl) (.inr ⟨rfl, rfl, l, c, r4, r4', r3⟩) (all_drop hs nn) (lastOk_drop hl hnl) (fun e => by
          rw [drop_head hnl]
          intro e2
          have e1 : s.getD nn 0 = 32 := Option.some.inj e2
          have := hno nn (by omega) (Nat.le_refl _)
          unfold cutAt at this
          rw [decide_eq_true hnl, decide_eq_true e1] at this
          rw [e] at hq'
          revert hq' this
          cases q <;> cases Qy (s.take nn) <;> decide) hpar
        refine ⟨z, s.take nn ++ J, m, by rw [r1, t1], t2, ?_, ?_, ?_⟩
        · have hz : (if ([45] : Str) = [32] ∧ y.cards ≠ [] then ([32] : Str) else []) = [] := if_neg (fun e => absurd e.1 (by decide))
          rw [t3, hz, r5, hu, List.append_nil]
          simp only [List.append_assoc]
        · intro p
          rw [sq_app, ← hq', t4, hq', ← sq_app, List.take_append_drop]
        · rw [t5, r6, if_neg (show ¬ ([45] : Str) = [32] by decide), List.append_nil]
theorem textL_lines : ∀ (f col : Nat) (m : UInt8) (q : Bool) (k : Nat) (s : Str), (m = 32 ∨ m = 45) → (col = 8 ∨ col = 12) → s.all okB = true → lastOk s → ∀ l ∈ textL f col [m] q k s, 8 ≤ l.length ∧ l.length ≤ 72 ∧ (10 : UInt8) ∉ l
  | 0, _, _, _, _, _, _, _, _, _, l, h => by cases h
  | f + 1, col, m, q, k, s, hm, hc, hs, hl, l, h => by
    obtain ⟨ld, hld⟩ : ∃ ld : Nat, ld = if q = true then 1 else 0 := ⟨_, rfl⟩
    obtain ⟨nn, hnn⟩ : ∃ nn, nn = 73 - col - ld := ⟨_, rfl⟩
    have hld1 : ld ≤ 1 := by rw [hld]; split <;> omega
    have hll : (if q = true then [34] else [] : Str).length = ld := by rw [hld]; split <;> rfl
    have hlo : (if q = true then [34] else [] : Str).all okB = true := by split <;> rfl
    have hpos := List.length_pos_iff.2 hl.1
    have one : ∀ t : Str, t.all okB = true → 0 < t.length → t.length ≤ nn → 8 ≤ (lineS (k + 1) [m] col ((if q = true then [34] else []) ++ t)).length ∧ (lineS (k + 1) [m] col ((if q = true then [34] else []) ++ t)).length ≤ 72 ∧ (10 : UInt8) ∉ lineS (k + 1) [m] col ((if q = true then [34] else []) ++ t) := by
      intro t h1 h2 h3
      rw [lineS_len, List.length_append, hll]
      refine ⟨by omega, by omega, fun e => ?_⟩
      have := List.all_eq_true.1 (lineS_ok (n := k + 1) (m := m) (col := col) (t := (if q = true then [34] else []) ++ t) (by rcases hm with rfl | rfl <;> decide) (by rw [List.all_append, hlo, h1]; rfl)) _ e
      exact absurd this (by decide)
    rw [textL, ← hld, ← hnn] at h
    by_cases h1 : s.length ≤ nn
    · rw [if_pos h1] at h
      rw [List.mem_singleton.1 h]
      exact one s hs hpos h1
    · rw [if_neg h1] at h
      by_cases h2 : 0 < Xn s nn q
      · rw [if_pos h2] at h
        have hcut := spaceE_cut s q nn h2
        have hkn := (spaceE_le s nn q).1
        unfold cutAt at hcut
        simp only [Bool.and_eq_true, decide_eq_true_eq, beq_iff_eq] at hcut
        rcases List.mem_cons.1 h with rfl | h
        · exact one _ (all_take hs _) (by rw [List.length_take]; omega) (by rw [List.length_take]; omega)
        · exact textL_lines f 12 32 false (k + 1) _ (.inl rfl) (.inr rfl) (all_trimL (all_drop hs _)) (lastOk_trimL (lastOk_drop hl hcut.1.1)) l h
      · rw [if_neg h2] at h
        rcases List.mem_cons.1 h with rfl | h
        · exact one _ (all_take hs _) (by rw [List.length_take]; omega) (by rw [List.length_take]; omega)
        · exact textL_lines f 12 45 _ (k + 1) _ (.inr rfl) (.inr rfl) (all_drop hs _) (lastOk_drop hl (by omega)) l h
/-- What Write answers for one text. -/
structure WrLaw (text : Str) (left : Bool) (S : Str) (ls : List Str) (cs : List CardC) : Prop where
  write : writeE [(left, text)] = (S, 0)
  len : S.length ≤ 100000
  split : Qp S = ls ++ [[]]
  lines : ∀ l ∈ ls, 8 ≤ l.length ∧ l.length ≤ 72
  read : readE S false = (cs, okF)
  left : ∃ m, cs.map (·.left) = left :: List.replicate m false
  sq : sqE (jT cs) = sqE text
end Go.Proofs.YtmadddihphkmoaaGreatDoor

/-
  Plain: tokens of cards are those of their texts joined; spaces outside of quotes; what holds of the cards that are read.
  Conditions: none.
-/
namespace Go.Proofs.YtmadddihphkmoaaGreatDoor
open Go.AM
open Go.Proofs
open Go.Col
open Go.Tok
set_option maxRecDepth 100000

/-! ### Spaces outside of quotes -/
theorem absE_nil (l : List TokC) : absE [] 0 l = (l, 0) := rfl
theorem abs_sp1 (v : Str) (l : List TokC) : absE (32 :: v) 0 l = absE v 0 l := by
  have h := abs_cut (u := []) (v := v) l odd_nil
  rw [List.nil_append, absE_nil] at h
  rw [h]
  unfold thenE
  rw [if_neg (by simp)]
theorem thenE_sp (r : List TokC × Int) (v : Str) : thenE r (32 :: v) = thenE r v := by
  unfold thenE
  rw [abs_sp1]
theorem abs_sq : ∀ (s a : Str) (l : List TokC), absE (a ++ sqGo (Qy a) (lastSp false a) s) 0 l = absE (a ++ s) 0 l
  | [], a, l => rfl
  | b :: s, a, l => by
    rw [sqGo]
    obtain ⟨q', hq'⟩ : ∃ q', q' = (if b = 34 then !Qy a else Qy a) := ⟨_, rfl⟩
    rw [← hq']
    by_cases hc : b = 32 ∧ q' = false ∧ lastSp false a = true
    · rw [if_pos hc]
      obtain ⟨h1, h2, h3⟩ := hc
      subst h1
      rw [if_neg (by decide)] at hq'
      rcases List.eq_nil_or_concat a with e | ⟨a', x, e⟩
      · rw [e] at h3; cases h3
      rw [List.concat_eq_append] at e
      have hx : x = 32 := by
        rw [e] at h3
        simpa [lastSp] using h3
      subst hx
      have ho : Qy a' = false := by
        rw [h2, e, odd_append] at hq'
        have : Qy [32] = false := rfl
        rw [this] at hq'
        revert hq'
        cases Qy a' <;> simp
      have ih := abs_sq s a l
      have e32 : decide ((32 : UInt8) = 32) = true := by decide
      rw [e32, hq']
      rw [h3] at ih
      rw [ih, e]
      simp only [List.append_assoc, List.cons_append, List.nil_append]
      rw [abs_cut l ho, abs_cut l ho, thenE_sp]
    · rw [if_neg hc]
      have e1 : Qy (a ++ [b]) = q' := by
        rw [odd_append, odd_cons, odd_nil, hq']
        split <;> cases Qy a <;> rfl
      have e2 : lastSp false (a ++ [b]) = decide (b = 32) := by simp [lastSp]
      have ih := abs_sq s (a ++ [b]) l
      rw [e1, e2] at ih
      simp only [List.append_assoc, List.cons_append, List.nil_append] at ih
      exact ih
theorem abs_sqE (s : Str) (l : List TokC) : absE (sqE s) 0 l = absE s 0 l := abs_sq s [] l
theorem abs_alike {s t : Str} (h : sqE s = sqE t) (l : List TokC) : absE s 0 l = absE t 0 l := by rw [← abs_sqE s, h, abs_sqE]

/-! ### The tokens of cards -/
theorem cardGo_fault (c : CardC) : ∀ (f i : Nat) (l : List TokC), (cardGo c f i l).2 = okF ∨ (cardGo c f i l).2.e ≠ 0
  | 0, i, l => .inl rfl
  | f + 1, i, l => by
    rw [cardGo_step]
    split
    · exact .inl rfl
    · split
      · rename_i h; exact .inr h
      · exact cardGo_fault c f _ _
theorem cardT_abs {c : CardC} (hv : validC c = true) {l m : List TokC} (h : l.map kt = m.map kt) : (cardT c l).1.map kt = (absE c.text 0 m).1.map kt ∧ (cardT c l).2.e = (absE c.text 0 m).2 ∧ ((cardT c l).2 = okF ∨ (cardT c l).2.e ≠ 0) := by
  have h0 : (atE c 0).2.2 = 0 := by
    unfold atE
    rw [if_pos ⟨hv, by omega, by omega⟩]
  have e : cardT c l = cardGo c (c.text.length + 1) 0 l := by
    unfold cardT
    rw [if_neg (by rw [h0]; simp)]
  obtain ⟨h1, h2⟩ := cardGo_abs c (c.text.length + 1) 0 l m h
  rw [e]
  exact ⟨h1, h2, cardGo_fault c _ _ _⟩
theorem scan_jT : ∀ (c : CardC) (r : List CardC) (l m : List TokC), (∀ d ∈ c :: r, validC d = true ∧ Qy d.text = false) → l.map kt = m.map kt →
    (scanGo (c :: r) l).2.e = (absE (jT (c :: r)) 0 m).2 ∧ ((absE (jT (c :: r)) 0 m).2 = 0 → (scanGo (c :: r) l).1.map kt = (absE (jT (c :: r)) 0 m).1.map kt)
  | c, [], l, m, h, hk => by
    obtain ⟨a1, a2, a3⟩ := cardT_abs (h c (by simp)).1 hk
    have ej : jT [c] = c.text := by simp [jT]
    rw [ej, scanGo]
    split
    · rename_i q
      have q' := a3.resolve_left q
      rw [a2] at q'
      exact ⟨a2, fun z => absurd z q'⟩
    · rename_i q
      have q' : (cardT c l).2 = okF := Decidable.of_not_not q
      rw [q'] at a2
      exact ⟨a2, fun _ => a1⟩
  | c, d :: r, l, m, h, hk => by
    obtain ⟨hv, ho⟩ := h c (by simp)
    obtain ⟨a1, a2, a3⟩ := cardT_abs hv hk
    have ej : jT (c :: d :: r) = c.text ++ 32 :: jT (d :: r) := by simp [jT]
    rw [ej, abs_cut m ho, scanGo]
    unfold thenE
    split
    · rename_i q
      have q' := a3.resolve_left q
      rw [a2] at q'
      rw [if_pos q']
      exact ⟨a2, fun z => absurd z q'⟩
    · rename_i q
      have q' : (cardT c l).2 = okF := Decidable.of_not_not q
      rw [q'] at a2
      rw [if_neg (by rw [← a2]; simp [okF])]
      exact scan_jT d r _ _ (fun e he => h e (by simp only [List.mem_cons] at he ⊢; exact .inr he)) a1

/-! ### What holds of the cards that are read -/
theorem odd_trimR (s : Str) : Qy (trimR s) = Qy s := by
  obtain ⟨m, h⟩ := trimR_split s
  conv => rhs; rw [h, XD, oddQ_sp]
  cases Qy (trimR s) <;> rfl
theorem addC_odd (c : CardC) (line col : Int) (t : Str) : Qy (addC c line col t).text = Qy (c.text ++ t) := by
  unfold addC
  simp only
  split
  · rfl
  · rw [XD, odd_trimR, ← XD]
theorem addC_left (c : CardC) (line col : Int) (t : Str) : (addC c line col t).left = c.left := rfl
theorem addC_mark {c : CardC} {m : MarkC} {ms : List MarkC} (h : c.marks = m :: ms) (line col : Int) (t : Str) : ∃ ns, (addC c line col t).marks = m :: ns := by
  have e : (addC c line col t).marks = if (if Qy (c.text ++ t) = true then t else trimR t) = [] then c.marks else c.marks ++ [⟨c.text.length, line, col⟩] := rfl
  rw [e, h]
  by_cases q : (if Qy (c.text ++ t) = true then t else trimR t) = []
  · exact ⟨ms, if_pos q⟩
  · exact ⟨ms ++ [⟨c.text.length, line, col⟩], if_neg q⟩
theorem addC_first (b : Bool) (line col : Int) {t : Str} (h0 : t ≠ []) (h1 : t.head? ≠ some 32) : (addC ⟨b, [], []⟩ line col t).marks = [⟨0, line, col⟩] := by
  have hne : trimR t ≠ [] := fun e => by
    obtain ⟨m, h⟩ := trimR_split t
    rw [e, List.nil_append] at h
    cases m with
    | zero => exact h0 h
    | succ m => rw [h] at h1; exact h1 rfl
  have e : (addC ⟨b, [], []⟩ line col t).marks = if (if Qy t = true then t else trimR t) = [] then [] else [⟨0, line, col⟩] := rfl
  rw [e, if_neg]
  split
  · exact h0
  · exact hne
/-- A card that is left is one whose first mark is in area A. -/
def LeftOk (c : CardC) : Prop := ∃ m ms, c.marks = m :: ms ∧ c.left = decide (m.col < 12)
structure RdEv (x : Rd) : Prop where
  ev : ∀ l c, x.cards = l ++ [c] → (∀ d ∈ l, Qy d.text = false) ∧ Qy c.text = x.odd
  nil : x.cards = [] → x.odd = false
  left : ∀ c ∈ x.cards, LeftOk c
theorem rdEv_more {x : Rd} (hx : RdEv x) (line col : Int) (t : Str) : RdEv (addE x line col t) := by
  rcases List.eq_nil_or_concat x.cards with e | ⟨l, c, e⟩
  · have : addE x line col t = x := by unfold addE; rw [e]; rfl
    rw [this]
    exact hx
  · rw [List.concat_eq_append] at e
    obtain ⟨a1, a2⟩ := hx.ev l c e
    rw [XO e]
    refine ⟨fun l' c' he => ?_, fun he => by simp at he, fun d hd => ?_⟩
    · obtain ⟨rfl, he2⟩ := List.append_inj' he rfl
      obtain rfl := List.head_eq_of_cons_eq he2
      exact ⟨a1, addC_odd _ _ _ _⟩
    · simp only [List.mem_append, List.mem_singleton] at hd
      rcases hd with hd | rfl
      · exact hx.left d (by rw [e]; simp [hd])
      · obtain ⟨m, ms, b1, b2⟩ := hx.left c (by rw [e]; simp)
        obtain ⟨ns, b3⟩ := addC_mark b1 line col t
        exact ⟨m, ns, b3, by rw [addC_left, b2]⟩
theorem rdEv_new {x : Rd} (hx : RdEv x) (ho : x.odd = false) (line col : Int) {t : Str} (h0 : t ≠ []) (h1 : t.head? ≠ some 32) : RdEv (addE { x with cards := x.cards ++ [⟨decide (col < 12), [], []⟩] } line col t) := by
  have e : ({ x with cards := x.cards ++ [⟨decide (col < 12), [], []⟩] } : Rd).cards = x.cards ++ [⟨decide (col < 12), [], []⟩] := rfl
  rw [XO e]
  refine ⟨fun l' c' he => ?_, fun he => by simp at he, fun d hd => ?_⟩
  · obtain ⟨rfl, he2⟩ := List.append_inj' he rfl
    obtain rfl := List.head_eq_of_cons_eq he2
    refine ⟨fun d hd => ?_, addC_odd _ _ _ _⟩
    rcases List.eq_nil_or_concat x.cards with q | ⟨l, c, q⟩
    · rw [q] at hd; cases hd
    · rw [List.concat_eq_append] at q
      obtain ⟨a1, a2⟩ := hx.ev l c q
      rw [q, List.mem_append, List.mem_singleton] at hd
      rcases hd with hd | rfl
      · exact a1 d hd
      · rw [a2, ho]
  · simp only [List.mem_append, List.mem_singleton] at hd
    rcases hd with hd | rfl
    · exact hx.left d hd
    · exact ⟨_, [], addC_first _ _ _ h0 h1, rfl⟩
theorem rdEv_take {x : Rd} (hx : RdEv x) {r : RowC} (h0 : r.text ≠ []) (h1 : r.text.head? ≠ some 32) : RdEv (Col.takeE x r).1 := by
  unfold Col.takeE
  split
  · exact hx
  · rename_i c1
    split
    · rename_i c2
      have ho : x.odd = false := by
        cases q : x.odd with
        | false => rfl
        | true => rw [c2, q] at c1; exact absurd rfl c1
      exact rdEv_new hx ho _ _ h0 h1
    · split
      · exact hx
      · split
        · exact hx
        · split
          · exact rdEv_more hx _ _ _
          · exact rdEv_more hx _ _ _
theorem readL_ev (dbg : Bool) : ∀ (ls : List Str) (n : Int) (x : Rd), RdEv x → RdEv (XZ dbg ls n x).1
  | [], _, x, h => h
  | s :: ls, n, x, h => by
    rw [XZ]
    cases hp : lineE s n dbg with
    | mk r q =>
      obtain ⟨cn, f⟩ := q
      simp only
      split
      · exact readL_ev dbg ls (n + 1) x h
      · rename_i q1
        split
        · rename_i q2
          have hcn : cn = true := by
            cases cn with
            | true => rfl
            | false => exact absurd ⟨q2, rfl⟩ q1
          rw [hcn, q2] at hp
          have hrow : r.text ≠ [] ∧ r.text.head? ≠ some 32 := by
            unfold lineE at hp
            split at hp
            · cases hp
            split at hp
            · cases hp
            simp only at hp
            have hh : (rowE s n).text.head? ≠ some 32 := head_trimL _
            split at hp
            · cases hp
            split at hp
            · simp only [Prod.mk.injEq, Bool.and_eq_true, Bool.not_eq_true', decide_eq_false_iff_not] at hp
              obtain ⟨rfl, hp, _⟩ := hp
              exact ⟨hp.2, hh⟩
            split at hp
            · simp only [Prod.mk.injEq, Bool.not_eq_true', decide_eq_false_iff_not] at hp
              obtain ⟨rfl, hp, _⟩ := hp
              exact ⟨hp, hh⟩
            · cases hp
          have ht := rdEv_take h hrow.1 hrow.2
          split
          · exact readL_ev dbg ls (n + 1) _ ht
          · exact ht
        · exact h
theorem rdEv_start : RdEv .start := ⟨fun l c h => absurd h.symm (by simp [Rd.start]), fun _ => rfl, fun c hc => by cases hc⟩
theorem read_ev {text : Str} {dbg : Bool} (hf : (readE text dbg).2 = okF) : ∀ c ∈ (readE text dbg).1, Qy c.text = false ∧ LeftOk c := by
  have h := readL_ev dbg (Qp (XK text)) 1 .start rdEv_start
  revert hf
  unfold readE
  split
  · intro q; cases q
  · simp only
    split
    · intro _ c hc; cases hc
    · split
      · intro _ c hc; cases hc
      · rename_i ho
        intro _ c hc
        refine ⟨?_, h.left c hc⟩
        rcases List.eq_nil_or_concat (XZ dbg (Qp (XK text)) 1 .start).1.cards with q | ⟨l, d, q⟩
        · simp only at hc; rw [q] at hc; cases hc
        · rw [List.concat_eq_append] at q
          obtain ⟨a1, a2⟩ := h.ev l d q
          simp only at hc
          rw [q, List.mem_append, List.mem_singleton] at hc
          rcases hc with hc | rfl
          · exact a1 c hc
          · rw [a2]; simpa using ho
theorem sameE_kt : ∀ {l m : List TokC}, l.map kt = m.map kt → sameE l m = true
  | [], [], _ => rfl
  | [], _ :: _, h => by cases h
  | _ :: _, [], h => by cases h
  | a :: l, b :: m, h => by
    simp only [List.map_cons, List.cons.injEq, kt, Prod.mk.injEq] at h
    rw [sameE, sameE_kt h.2]
    unfold sameT
    rw [decide_eq_true h.1.1, decide_eq_true h.1.2]
    rfl
/-- What Source answers to what Write has laid out: the tokens of the text. -/
theorem source_text {S text : Str} {cs : List CardC} (hr : readE S false = (cs, okF)) (hn : cs ≠ []) (hq : sqE (jT cs) = sqE text) :
    (XP S false).2.e = (absE text 0 []).2 ∧ ((absE text 0 []).2 = 0 → (XP S false).1.map kt = (absE text 0 []).1.map kt) := by
  have hv := read_valid (text := S) (dbg := false) (by rw [hr])
  have he := read_ev (text := S) (dbg := false) (by rw [hr])
  rw [hr] at hv he
  have e : XP S false = scanGo cs [] := by
    unfold XP
    rw [hr, if_neg (by simp)]
    rfl
  rw [e, ← abs_alike hq []]
  cases cs with
  | nil => exact absurd rfl hn
  | cons c r => exact scan_jT c r [] [] (fun d hd => ⟨hv d hd, (he d hd).1⟩) rfl
end Go.Proofs.YtmadddihphkmoaaGreatDoor

/-
  Contracts: Text of the package tokens.
  Conditions: none.
-/
namespace Go.Proofs.YtmadddihphkmoaaGreatDoor
open Go.AM
open Go.Proofs
open Go.Col
open Go.Tok
open Go.RowKit (Below)
set_option maxRecDepth 100000

def dblE : Str → Str
  | [] => []
  | b :: s => if b = 34 then 34 :: 34 :: dblE s else b :: dblE s
theorem dblE_app : ∀ a b : Str, dblE (a ++ b) = dblE a ++ dblE b
  | [], _ => rfl
  | x :: a, b => by
    rw [List.cons_append, dblE, dblE, dblE_app a b]
    split <;> rfl
theorem dblE_none : ∀ {a : Str}, (34 : UInt8) ∉ a → dblE a = a
  | [], _ => rfl
  | x :: a, h => by
    simp only [List.mem_cons, not_or] at h
    rw [dblE, if_neg (fun e => h.1 e.symm), dblE_none h.2]
theorem dblE_len (s : Str) : (dblE s).length ≤ 2 * s.length := by
  induction s with
  | nil => exact Nat.le_refl _
  | cons b s ih =>
    rw [dblE]
    split <;> simp only [List.length_cons] <;> omega
theorem repl_eq : ∀ (n : Nat) (s : Str), s.length ≤ n → Lib.replaceK [34] [34, 34] (Lib.count s [34]) s = dblE s
  | 0, s, h => by
    have : s = [] := List.eq_nil_of_length_eq_zero (by omega)
    subst this
    rfl
  | n + 1, s, h => by
    rcases index_one s 34 with ⟨h1, h2⟩ | ⟨i, h1, h2, h3, h4⟩
    · rw [Lib.count_miss h1, dblE_none h2]
      rfl
    · have hc : Lib.count s [34] = Lib.count (s.drop (i + 1)) [34] + 1 := by
        have := Lib.count_hit (s := s) (sub := [34]) (i := i) (by decide) h1
        rw [this, Nat.add_comm]
        rfl
      rw [hc, Lib.replaceK_hit _ _ _ _ i h1]
      have ih := repl_eq n (s.drop (i + 1)) (by rw [List.length_drop]; omega)
      show s.take i ++ [34, 34] ++ Lib.replaceK [34] [34, 34] (Lib.count (s.drop (i + 1)) [34]) (s.drop (i + 1)) = _
      rw [ih]
      conv => rhs; rw [h3, dblE_app, dblE_none h4, dblE, if_pos rfl]
      simp
theorem repl_len (s : Str) : Lib.count s [34] ≤ s.length := by
  have : ∀ (n : Nat) (s : Str), s.length ≤ n → Lib.count s [34] ≤ s.length := by
    intro n
    induction n with
    | zero =>
      intro s h
      have : s = [] := List.eq_nil_of_length_eq_zero (by omega)
      subst this
      exact Nat.le_refl _
    | succ n ih =>
      intro s h
      rcases index_one s 34 with ⟨h1, h2⟩ | ⟨i, h1, h2, h3, h4⟩
      · rw [Lib.count_miss h1]; exact Nat.zero_le _
      · rw [Lib.count_hit (s := s) (sub := [34]) (i := i) (by decide) h1]
        have := ih (s.drop (i + [34].length)) (by rw [List.length_drop]; simp; omega)
        rw [List.length_drop] at this
        simp only [List.length_cons, List.length_nil] at this ⊢
        omega
  exact this _ s (Nat.le_refl _)
theorem c_dbl (w₀ : World) (hm : MaxL w₀) (h : AHeap) (s : Str) (hl : s.length ≤ 100000000) : ACall Tryz.prog w₀ 45 [.str s, .str [34], .str [34, 34]] h (fun v h' => v = .str (dblE s) ∧ h' = h) := by
  obtain ⟨m, hm⟩ := hm
  have hlt : 0 < w₀.heap.size := cell_lt hm
  refine acall_of_callsB (vals := [.string ⟨⟨s⟩⟩, .string ⟨⟨[34]⟩⟩, .string ⟨⟨[34, 34]⟩⟩]) (val := .string ⟨⟨dblE s⟩⟩) Tryz.func45 rfl rfl (fun φ vs hv => ?_) (fun φ => rfl) fun w hb => ?_
  · simp only [VRs, VR] at hv
    obtain ⟨v, vs', rfl, rfl, v2, vs2, rfl, rfl, v3, vs3, rfl, rfl, rfl⟩ := hv
    rfl
  · have hw : w.cell? ⟨0, 0, none⟩ = some (.int .i64 m) := (hb.cell (p := ⟨0, 0, none⟩) hlt).trans hm
    have hcn : Lib.countB ⟨⟨s⟩⟩ ⟨⟨[34]⟩⟩ ≤ s.length := by
      have h1 := repl_len s
      exact h1
    refine (Tryz.strings_ReplaceAll ⟨⟨s⟩⟩ ⟨⟨[34]⟩⟩ ⟨⟨[34, 34]⟩⟩ m w (by show s.length < _; omega) hw (by decide) (by show s.length + _ * 2 ≤ _; omega)).mono fun e w' ⟨e1, e2⟩ => ⟨?_, e2⟩
    rw [e1]
    show Ending.returned (.string ⟨⟨Lib.replaceAll s [34] [34, 34]⟩⟩) = _
    unfold Lib.replaceAll Lib.replace Lib.replaceNum
    rw [if_neg (by decide), if_pos (.inl (by decide)), repl_eq _ _ (Nat.le_refl _)]
/-- A token as text. -/
def Xm (t : TokC) : Str := if t.kind = 3 then 34 :: dblE t.text ++ [34] else if t.kind = 6 then [46] else if t.kind = 7 then [61, 61] else t.text
def textE (l : List TokC) : Str := Lib.join (l.map Xm) [32]
theorem textT_len (t : TokC) : (Xm t).length ≤ 2 * t.text.length + 2 := by
  have := dblE_len t.text
  unfold Xm
  split
  · simp; omega
  split
  · simp
  split
  · simp
  · omega
def strT (s : Str) : List AVal := [.str s]
structure TxtOk (h : AHeap) (l : List TokC) (g : Nat × Option Buf) : Prop where
  i : g.1 ≤ l.length
  ok : bufOk h 1 g.2
  eq : bufC g.2 = ((l.take g.1).map fun t => strT (Xm t)).flatten
theorem join_lenT {sep : Str} {m : Nat} : ∀ {l : List Str}, (∀ x ∈ l, x.length ≤ m) → (Lib.join l sep).length ≤ l.length * (m + sep.length)
  | [], _ => by simp [Lib.join]
  | [x], h => by
    have := h x (by simp)
    simp [Lib.join]
    omega
  | x :: y :: l, h => by
    have ih := join_lenT (sep := sep) (l := y :: l) fun z hz => h z (by simp [hz])
    have hx := h x (by simp)
    have e : Lib.join (x :: y :: l) sep = x ++ sep ++ Lib.join (y :: l) sep := by
      unfold Lib.join
      rw [List.intercalate_cons_cons]
    rw [e]
    simp only [List.length_append]
    have : (x :: y :: l).length * (m + sep.length) = (y :: l).length * (m + sep.length) + (m + sep.length) := by
      rw [List.length_cons, Nat.add_mul, Nat.one_mul]
    omega
set_option maxHeartbeats 1000000 in
theorem c_Text (w₀ : World) (hm : MaxL w₀) (h : AHeap) (v : AVal) (l : List TokC) (hv : IsL w₀ h 5 v (l.map Zc)) (hl : l.length ≤ 65536) (hb : ∀ t ∈ l, t.text.length ≤ 100000000) :
    ACall Tryz.prog w₀ 20 [v] h (fun r h' => r = .str (textE l) ∧ h' = h) := by
  have hlv := hv.live
  have hlen := tok_len hv
  refine qY (n := 42) (rs := [.tmp 2]) Tryz.func20 rfl rfl rfl rfl (Nat.le_of_ble_eq_true rfl) ?_
  simp only [Qf]
  refine awp_rseq [0] (by rfl) fun K hK => ?_
  simp +decide only [qa, ev, qK, qH, putD, Slots.put, Slots.keep, if_true, if_false, true_and, ↓qc, qb]
  apply hK; clear hK K
  refine awp_rseq [0, 3] (by rfl) fun K hK => ?_
  simp +decide only [qa, ev, qK, qH, putD, Slots.put, Slots.keep, if_true, if_false, true_and, ↓qc, qb]
  apply hK; clear hK K
  refine qN ?_
  refine awp_rseq [3, 6, 7, 8] (by rfl) fun K hK => ?_
  simp +decide only [qa, ev, qK, qH, putD, Slots.put, Slots.get, Slots.keep, if_true, if_false, true_and, ↓qg, qd, ↓Xw, QH, hlen]
  apply hK; clear hK K
  refine Qt ?_
  refine XW [3, 6, 7, 8] (fun g : Nat × Option Buf => [(3, XM 1 g.2), (6, v), (7, .int .i64 l.length), (8, .int .i64 g.1)]) (fun g : Nat × Option Buf => Xv h g.2) (fun g : Nat × Option Buf => TxtOk h l g) (fun g : Nat × Option Buf => l.length - g.1) (0, none) (by rfl) (Sub.refl _) ⟨Nat.zero_le _, trivial, rfl⟩ ?_
  rintro ⟨i, b⟩ ⟨g1, g2, g3⟩
  simp only at g1 g2 g3 ⊢
  have hbs := Sub.buf g2
  refine awp_rseq [3, 6, 7, 8, 9] (by rfl) fun K hK => ?_
  simp +decide only [qa, ev, putD, Slots.put, Slots.get, Slots.keep, if_true, if_false, true_and, ↓qw, qh, qP, cond_false, qm, pI_lss]
  apply hK; clear hK K
  refine qN (qM (b := _) rfl (fun hb1 => ?_) (fun hb1 => ?_))
  · try simp only [decide_eq_true_eq] at hb1
    have hi : i < l.length := by omega
    obtain ⟨lc, o, c, rfl⟩ := tok_open hv (by omega)
    obtain ⟨e0, e1, e2, e3, e4⟩ := tok_at (hv.mono hbs) hi
    obtain ⟨t, ht⟩ : ∃ t, t = l.getD i badT := ⟨_, rfl⟩
    have htk : l.take (i + 1) = l.take i ++ [t] := by rw [List.take_add_one, List.getElem?_eq_getElem hi, ht]; simp [List.getD, hi]
    rw [← ht] at e0 e1 e2 e3 e4
    have htb := hb t (by rw [ht, List.getD, List.getElem?_eq_getElem hi]; exact List.getElem_mem hi)
    have hdl := dblE_len t.text
    refine qZ ?_
    change Awp _ _ _ _ _ _ _
    refine qN ?_
    refine Qt ?_
    refine awp_rseq [3, 5, 6, 7, 8] (by rfl) fun K hK => ?_
    simp +decide only [ev, putD, Slots.put, Slots.get, if_true, if_false, true_and, ↓QT, Qb, Qj Tryz.underlying25 Xi, ↓qJ, qi ag38 Xi, qf, qC, qj, qE, allLive, Bool.and_true, e0, e1, e2, e3, e4, Int.toNat_natCast]
    repeat (with_reducible refine And.intro ?_ ?_; · first | trivial | omega | (intro hg; simp only [Bool.and_eq_true, Bool.or_eq_true, Bool.not_eq_true', Bool.and_eq_false_iff, Bool.or_eq_false_iff, Bool.not_eq_false', decide_eq_true_eq, decide_eq_false_iff_not, XI] at hg; omega) | (simp only [List.length_append, List.length_map, List.length_range, List.length_replicate, List.length_take, List.length_drop, List.length_cons, List.length_nil, List.length_set, List.length_reverse]; omega))
    refine Qh ze38 (cs := [.int .u8 0, .str [], .int .i64 0, .int .i64 0, .bool false]) (by rfl) fun k4q2 hk4q2 => ?_
    try have hf_4q2 : h k4q2 = none := by first | assumption | (simp only [AHeap.set_none] at hk4q2; simp only [hk4q2])
    refine qp (by rfl) (by rfl) (by repeat (first | exact AHeap.set_same _ _ _ | assumption | refine (AHeap.set_ne _ _ (by first | assumption | exact Ne.symm (by assumption))).trans ?_)) Xi (by rfl) (by rfl) (by first | exact Nat.le_refl _ | decide | (simp; done) | (simp; omega)) (Nat.zero_le _) (by rfl) ?_
    simp only [AHeap.set_set, AVal.cells]
    simp +decide only [qa, ev, putD, Slots.put, Slots.get, Slots.keep, if_true, if_false, setAt, List.set_cons_zero, List.set_cons_succ, Nat.zero_add, Nat.reduceAdd]
    apply hK; clear hK K
    refine awp_rseq [3, 5, 6, 7, 8, 13] (by rfl) fun K hK => ?_
    simp +decide only [qa, ev, putD, Slots.put, Slots.get, Slots.keep, if_true, if_false, true_and, ↓qF, qo, fa38_0, ↓qJ, Qb, qD ag36, Xa, List.getD_cons_zero, Nat.zero_add, qj]
    apply hK; clear hK K
    refine Qt ?_
    refine awp_rseq [3, 5, 6, 7, 8, 13, 19] (by rfl) fun K hK => ?_
    simp +decide only [qa, ev, qK, qH, putD, Slots.put, Slots.get, Slots.keep, if_true, if_false, true_and, ↓qw, qh, qz, cond_false, qm, Xo, ↓qc, qb]
    apply hK; clear hK K
    refine qM (b := _) rfl (fun hb2 => ?_) (fun hb2 => ?_)
    · try simp only [decide_eq_true_eq] at hb2
      have hk : t.kind = 3 := (XB _ 3).mp hb2
      have htx : Xm t = [34] ++ dblE t.text ++ [34] := by unfold Xm; rw [if_pos hk]; rfl
      refine Xl [3, 6, 7, 8] (by rfl) ?_
      simp +decide only [ev, putD, Slots.put, Slots.get, if_true, if_false, true_and, ↓qg, qd, ↓qF, qo, fa38_1, ↓qJ, Qb, qD ag9, Xa, List.getD_cons_zero, List.getD_cons_succ, Nat.zero_add, qE]
      refine qL (V := .str (dblE t.text)) (by rfl) (by rfl) (c_dbl w₀ hm _ t.text htb) ?_
      simp +decide only [ev, qK, qH, putD, Slots.put, Slots.get, if_true, if_false, ↓qw, qh, qP, cond_false, XN, pS_add, isNilC_str]
      repeat (with_reducible refine And.intro ?_ ?_; · first | trivial | omega | (intro hg; simp only [Bool.and_eq_true, Bool.or_eq_true, Bool.not_eq_true', Bool.and_eq_false_iff, Bool.or_eq_false_iff, Bool.not_eq_false', decide_eq_true_eq, decide_eq_false_iff_not, XI] at hg; omega) | (simp only [List.length_append, List.length_cons, List.length_nil]; omega))
      refine Qk (cs := [.str ([34] ++ dblE t.text ++ [34])]) (by kernel_rfl) fun k8q6 hk8q6 => ?_
      have ne_8q6_4q2 : k8q6 ≠ k4q2 := by simp only [AHeap.set_none] at hk8q6; simp only [hk8q6, ne_eq, not_false_eq_true]
      try have hf_8q6 : h k8q6 = none := by first | assumption | (simp only [AHeap.set_none] at hk8q6; simp only [hk8q6])
      refine XF (es := 1) (zs := (l.take i).map fun t => strT (Xm t)) (xs := [strT ([34] ++ dblE t.text ++ [34])]) (h₀ := h) (b := b) (by rfl) (by rfl) Tryz.underlying64 Tryz.underlying64 (fun k e => by cases e) sz9 by9 ze9 (by rfl) (by decide) (by rfl) g2 g3 (fun y hy => by obtain ⟨d, _, rfl⟩ := List.mem_map.1 hy; rfl) ((Sub.set hk4q2).trans (Sub.set hk8q6)) (by rfl) (IsL.own (AHeap.set_same _ _ _) (by simp [strT]) (by rfl) (by rfl) (.exact 1) (Nat.le_refl _)) (by rfl) (by simp; omega) (by simp; omega) fun b' h5 o1 o2 o3 => ?_
      have hbl' := bufV_live 1 b'
      simp +decide only [qa, ev, putD, Slots.put, Slots.get, Slots.keep, if_true, if_false, true_and, ↓qc, qb]
      change Awp _ _ _ _ _ _ _
      refine Xl [3, 6, 7, 8] (by rfl) ?_
      simp +decide only [qa, ev, qK, qH, putD, Slots.put, Slots.get, Slots.keep, if_true, if_false, true_and, ↓qw, qh, qz, cond_false, qm, Xk, ↓qg, qd]
      try simp (disch := omega) only [wrap_i64]
      try simp only [qR]
      exact ⟨(i + 1, b'), rfl, o3, ⟨hi, o1, by simp only; rw [o2, htk, List.map_append, List.map_cons, List.map_nil, htx]⟩, by simp only; omega⟩
    · try simp only [decide_eq_false_iff_not] at hb2
      have hk3 : ¬ t.kind = 3 := fun q => hb2 ((XB _ 3).mpr q)
      refine awp_rseq [3, 5, 6, 7, 8, 13, 29] (by rfl) fun K hK => ?_
      simp +decide only [qa, ev, qK, qH, putD, Slots.put, Slots.get, Slots.keep, if_true, if_false, true_and, ↓qw, qh, qz, cond_false, qm, Xo, ↓qc, qb]
      apply hK; clear hK K
      refine qM (b := _) rfl (fun hb3 => ?_) (fun hb3 => ?_)
      · try simp only [decide_eq_true_eq] at hb3
        have hk : t.kind = 6 := (XB _ 6).mp hb3
        have htx : Xm t = [46] := by unfold Xm; rw [if_neg hk3, if_pos hk]
        refine Xl [3, 6, 7, 8] (by rfl) ?_
        simp +decide only [ev, putD, Slots.put, Slots.get, if_true, if_false, true_and, ↓qg, qd]
        refine Qk (cs := [.str ([46])]) (by kernel_rfl) fun k10q1 hk10q1 => ?_
        have ne_10q1_4q2 : k10q1 ≠ k4q2 := by simp only [AHeap.set_none] at hk10q1; simp only [hk10q1, ne_eq, not_false_eq_true]
        try have hf_10q1 : h k10q1 = none := by first | assumption | (simp only [AHeap.set_none] at hk10q1; simp only [hk10q1])
        refine XF (es := 1) (zs := (l.take i).map fun t => strT (Xm t)) (xs := [strT ([46])]) (h₀ := h) (b := b) (by rfl) (by rfl) Tryz.underlying64 Tryz.underlying64 (fun k e => by cases e) sz9 by9 ze9 (by rfl) (by decide) (by rfl) g2 g3 (fun y hy => by obtain ⟨d, _, rfl⟩ := List.mem_map.1 hy; rfl) ((Sub.set hk4q2).trans (Sub.set hk10q1)) (by rfl) (IsL.own (AHeap.set_same _ _ _) (by simp [strT]) (by rfl) (by rfl) (.exact 1) (Nat.le_refl _)) (by rfl) (by simp; omega) (by simp; omega) fun b' h5 o1 o2 o3 => ?_
        have hbl' := bufV_live 1 b'
        simp +decide only [qa, ev, putD, Slots.put, Slots.get, Slots.keep, if_true, if_false, true_and, ↓qc, qb]
        change Awp _ _ _ _ _ _ _
        refine Xl [3, 6, 7, 8] (by rfl) ?_
        simp +decide only [qa, ev, qK, qH, putD, Slots.put, Slots.get, Slots.keep, if_true, if_false, true_and, ↓qw, qh, qz, cond_false, qm, Xk, ↓qg, qd]
        try simp (disch := omega) only [wrap_i64]
        try simp only [qR]
        exact ⟨(i + 1, b'), rfl, o3, ⟨hi, o1, by simp only; rw [o2, htk, List.map_append, List.map_cons, List.map_nil, htx]⟩, by simp only; omega⟩
      · try simp only [decide_eq_false_iff_not] at hb3
        have hk6 : ¬ t.kind = 6 := fun q => hb3 ((XB _ 6).mpr q)
        refine awp_rseq [3, 5, 6, 7, 8, 34] (by rfl) fun K hK => ?_
        simp +decide only [qa, ev, qK, qH, putD, Slots.put, Slots.get, Slots.keep, if_true, if_false, true_and, ↓qw, qh, qz, cond_false, qm, Xo, ↓qc, qb]
        apply hK; clear hK K
        refine qM (b := _) rfl (fun hb4 => ?_) (fun hb4 => ?_)
        · try simp only [decide_eq_true_eq] at hb4
          have hk : t.kind = 7 := (XB _ 7).mp hb4
          have htx : Xm t = [61, 61] := by unfold Xm; rw [if_neg hk3, if_neg hk6, if_pos hk]
          refine Xl [3, 6, 7, 8] (by rfl) ?_
          simp +decide only [ev, putD, Slots.put, Slots.get, if_true, if_false, true_and, ↓qg, qd]
          refine Qk (cs := [.str ([61, 61])]) (by kernel_rfl) fun k12q1 hk12q1 => ?_
          have ne_12q1_4q2 : k12q1 ≠ k4q2 := by simp only [AHeap.set_none] at hk12q1; simp only [hk12q1, ne_eq, not_false_eq_true]
          try have hf_12q1 : h k12q1 = none := by first | assumption | (simp only [AHeap.set_none] at hk12q1; simp only [hk12q1])
          refine XF (es := 1) (zs := (l.take i).map fun t => strT (Xm t)) (xs := [strT ([61, 61])]) (h₀ := h) (b := b) (by rfl) (by rfl) Tryz.underlying64 Tryz.underlying64 (fun k e => by cases e) sz9 by9 ze9 (by rfl) (by decide) (by rfl) g2 g3 (fun y hy => by obtain ⟨d, _, rfl⟩ := List.mem_map.1 hy; rfl) ((Sub.set hk4q2).trans (Sub.set hk12q1)) (by rfl) (IsL.own (AHeap.set_same _ _ _) (by simp [strT]) (by rfl) (by rfl) (.exact 1) (Nat.le_refl _)) (by rfl) (by simp; omega) (by simp; omega) fun b' h5 o1 o2 o3 => ?_
          have hbl' := bufV_live 1 b'
          simp +decide only [qa, ev, putD, Slots.put, Slots.get, Slots.keep, if_true, if_false, true_and, ↓qc, qb]
          change Awp _ _ _ _ _ _ _
          refine Xl [3, 6, 7, 8] (by rfl) ?_
          simp +decide only [qa, ev, qK, qH, putD, Slots.put, Slots.get, Slots.keep, if_true, if_false, true_and, ↓qw, qh, qz, cond_false, qm, Xk, ↓qg, qd]
          try simp (disch := omega) only [wrap_i64]
          try simp only [qR]
          exact ⟨(i + 1, b'), rfl, o3, ⟨hi, o1, by simp only; rw [o2, htk, List.map_append, List.map_cons, List.map_nil, htx]⟩, by simp only; omega⟩
        · try simp only [decide_eq_false_iff_not] at hb4
          have hk7 : ¬ t.kind = 7 := fun q => hb4 ((XB _ 7).mpr q)
          have htx : Xm t = t.text := by unfold Xm; rw [if_neg hk3, if_neg hk6, if_neg hk7]
          refine Xl [3, 6, 7, 8] (by rfl) ?_
          simp +decide only [ev, putD, Slots.put, Slots.get, if_true, if_false, true_and, ↓qg, qd, ↓qF, qo, fa38_1, ↓qJ, Qb, qD ag9, Xa, List.getD_cons_zero, List.getD_cons_succ, Nat.zero_add, qE]
          refine Qk (cs := [.str (t.text)]) (by kernel_rfl) fun k6q3 hk6q3 => ?_
          have ne_6q3_4q2 : k6q3 ≠ k4q2 := by simp only [AHeap.set_none] at hk6q3; simp only [hk6q3, ne_eq, not_false_eq_true]
          try have hf_6q3 : h k6q3 = none := by first | assumption | (simp only [AHeap.set_none] at hk6q3; simp only [hk6q3])
          refine XF (es := 1) (zs := (l.take i).map fun t => strT (Xm t)) (xs := [strT (t.text)]) (h₀ := h) (b := b) (by rfl) (by rfl) Tryz.underlying64 Tryz.underlying64 (fun k e => by cases e) sz9 by9 ze9 (by rfl) (by decide) (by rfl) g2 g3 (fun y hy => by obtain ⟨d, _, rfl⟩ := List.mem_map.1 hy; rfl) ((Sub.set hk4q2).trans (Sub.set hk6q3)) (by rfl) (IsL.own (AHeap.set_same _ _ _) (by simp [strT]) (by rfl) (by rfl) (.exact 1) (Nat.le_refl _)) (by rfl) (by simp; omega) (by simp; omega) fun b' h5 o1 o2 o3 => ?_
          have hbl' := bufV_live 1 b'
          simp +decide only [qa, ev, putD, Slots.put, Slots.get, Slots.keep, if_true, if_false, true_and, ↓qc, qb]
          change Awp _ _ _ _ _ _ _
          refine Xl [3, 6, 7, 8] (by rfl) ?_
          simp +decide only [qa, ev, qK, qH, putD, Slots.put, Slots.get, Slots.keep, if_true, if_false, true_and, ↓qw, qh, qz, cond_false, qm, Xk, ↓qg, qd]
          try simp (disch := omega) only [wrap_i64]
          try simp only [qR]
          exact ⟨(i + 1, b'), rfl, o3, ⟨hi, o1, by simp only; rw [o2, htk, List.map_append, List.map_cons, List.map_nil, htx]⟩, by simp only; omega⟩
  · try simp only [decide_eq_false_iff_not] at hb1
    refine Ze ?_
    change Awp _ _ _ _ _ _ _
    have hie : i = l.length := by omega
    rw [hie, List.take_length] at g3
    have hst : IsStrs w₀ (Xv h b) (XM 1 b) (l.map Xm) := by
      have := IsL.buf (w₀ := w₀) g2 (by decide) g3 (by simp [strT]) (h := Xv h b) (Sub.refl _)
      unfold IsStrs
      rw [List.map_map]
      exact this
    have hjl : (Lib.join (l.map Xm) [32]).length ≤ 140737488355328 := by
      refine Nat.le_trans (join_lenT (m := 200000002) fun y hy => ?_) ?_
      · obtain ⟨d, hd, rfl⟩ := List.mem_map.1 hy
        have h1 := textT_len d
        have h2 := hb d hd
        omega
      · rw [List.length_map]
        exact Nat.le_trans (Nat.mul_le_mul_right _ hl) (by decide)
    refine awp_rseq [2] (by rfl) fun K hK => ?_
    simp +decide only [ev, putD, Slots.put, Slots.get, if_true, if_false, true_and, ↓qg, qd]
    refine qL (V := .str (textE l)) (by rfl) (by rfl) (c_join w₀ _ _ _ _ hst (by simp; omega) hjl) ?_
    simp +decide only [qa, ev, putD, Slots.put, Slots.get, Slots.keep, if_true, if_false, true_and, ↓qc, qb]
    apply hK; clear hK K
    refine qU ?_
    refine qO h hbs (Qd (Qe)) ?_
    simp +decide only [Slots.get, if_true, and_true, QD]
    all_goals first | rfl | exact ⟨rfl, rfl⟩ | (simp +decide only [if_true, if_false, *]; done) | (trace_state; fail)
end Go.Proofs.YtmadddihphkmoaaGreatDoor

/-
  Plain: cards that are not valid, a card of many tokens, words and numbers that are too long.
  Conditions: none.
-/
namespace Go.Tok
open Go.Col (Str CardC FaultC okF readE atE validC atGo sp)
set_option maxRecDepth 100000

theorem next_picE {s : Str} {i : Nat} {l m : List TokC} (h : QM l = QM m) : QJ s i l = QJ s i m := by
  unfold QJ
  rw [h]
end Go.Tok
namespace Go.Proofs.YtmadddihphkmoaaGreatDoor
open Go.AM
open Go.Proofs
open Go.Col
open Go.Tok
set_option maxRecDepth 100000

end Go.Proofs.YtmadddihphkmoaaGreatDoor

/-
  Plain: a token that was read is read again from its own text.
  Conditions: none.
-/
namespace Go.Proofs.YtmadddihphkmoaaGreatDoor
open Go.AM
open Go.Proofs
open Go.Col
open Go.Tok
set_option maxRecDepth 100000

/-! ### Folding -/
theorem all_u8 {p : UInt8 → Bool} (h : ∀ k : Fin 256, p (UInt8.ofNat k.val) = true) (b : UInt8) : p b = true := by
  have := h ⟨b.toNat, b.toNat_lt⟩
  simpa using this
theorem foldB_idem (b : UInt8) : XA (XA b) = XA b := of_decide_eq_true (all_u8 (p := fun b => decide (XA (XA b) = XA b)) (by decide +kernel) b)
theorem foldB_32 (b : UInt8) : XA b = 32 ↔ b = 32 := of_decide_eq_true (all_u8 (p := fun b => decide (XA b = 32 ↔ b = 32)) (by decide +kernel) b)
theorem foldB_61 (b : UInt8) : XA b = 61 ↔ b = 61 := of_decide_eq_true (all_u8 (p := fun b => decide (XA b = 61 ↔ b = 61)) (by decide +kernel) b)
theorem foldB_ends (b : UInt8) : endsB (XA b) = endsB b := of_decide_eq_true (all_u8 (p := fun b => decide (endsB (XA b) = endsB b)) (by decide +kernel) b)
theorem foldB_wordy (b : UInt8) : QP (XA b) = QP b := of_decide_eq_true (all_u8 (p := fun b => decide (QP (XA b) = QP b)) (by decide +kernel) b)
theorem foldB_ok (b : UInt8) : okB b = true → okB (XA b) = true := of_decide_eq_true (all_u8 (p := fun b => decide (okB b = true → okB (XA b) = true)) (by decide +kernel) b)
theorem wordy_fold (b : UInt8) : QP b = true → XA b ≠ 34 ∧ XA b ≠ 46 ∧ XA b ≠ 61 ∧ XA b ≠ 43 ∧ XA b ≠ 32 ∧ (XA b = 45 → b = 45) := of_decide_eq_true (all_u8 (p := fun b => decide (QP b = true → XA b ≠ 34 ∧ XA b ≠ 46 ∧ XA b ≠ 61 ∧ XA b ≠ 43 ∧ XA b ≠ 32 ∧ (XA b = 45 → b = 45))) (by decide +kernel) b)
theorem ends_wordy (b : UInt8) : endsB b = true → QP b = false := of_decide_eq_true (all_u8 (p := fun b => decide (endsB b = true → QP b = false)) (by decide +kernel) b)
theorem foldE_idem (s : Str) : QK (QK s) = QK s := by
  unfold QK
  rw [List.map_map]
  exact List.map_congr_left fun b _ => foldB_idem b
theorem foldE_len (s : Str) : (QK s).length = s.length := by simp [QK]
theorem peek_fold (s : Str) (k : Int) : qA (QK s) k = XA (qA s k) := by
  unfold qA
  rw [foldE_len]
  split
  · rfl
  · rename_i h
    have hk : k.toNat < s.length := by omega
    simp [QK, List.getD, hk]
/-- What stands in a text from a place on, n bytes. -/
def Zh (s : Str) (i n : Nat) : Str := (s.drop i).take n
theorem cut_len {s : Str} {i n : Nat} (h : i + n ≤ s.length) : (Zh s i n).length = n := by
  unfold Zh
  rw [List.length_take, List.length_drop]
  omega
theorem cut_get {s : Str} {i n j : Nat} (hj : j < n) : (Zh s i n).getD j 0 = s.getD (i + j) 0 := by
  unfold Zh
  simp only [List.getD, List.getElem?_take, List.getElem?_drop, if_pos hj]
theorem cut_peek {s : Str} {i n j : Nat} (h : i + n ≤ s.length) (hj : j < n) : qA (Zh s i n) (j : Int) = qA s ((i : Int) + (j : Int)) := by
  have hl := cut_len h
  rw [Qn (by omega), cut_get hj, show (i : Int) + (j : Int) = ((i + j : Nat) : Int) by omega, Qn (by omega)]
theorem cut_end {s : Str} {i n : Nat} (h : i + n ≤ s.length) {j : Int} (hj : j < 0 ∨ n ≤ j) : qA (Zh s i n) j = 32 := by
  have hl := cut_len h
  exact peekE_ge (by omega)
theorem run_of {s : Str} {k n : Nat} {p : UInt8 → Bool} (hn : k + n ≤ s.length) (h1 : ∀ j, j < n → p (s.getD (k + j) 0) = true) (h2 : k + n < s.length → p (s.getD (k + n) 0) = false) : Zn s k p = n := by
  induction n generalizing k with
  | zero =>
    rw [runE_step]
    by_cases h : k < s.length
    · have := h2 h
      rw [Nat.add_zero] at this
      rw [if_neg (fun q => by rw [this] at q; exact absurd q.2 (by simp))]
    · rw [if_neg (fun q => h q.1)]
  | succ n ih =>
    have h0 := h1 0 (by omega)
    rw [Nat.add_zero] at h0
    rw [runE_step, if_pos ⟨by omega, h0⟩, ih (k := k + 1) (by omega) (fun j hj => by have := h1 (j + 1) (by omega); rwa [show k + (j + 1) = k + 1 + j by omega] at this) (fun h => by have := h2 (by omega); rwa [show k + (n + 1) = k + 1 + n by omega] at this)]
theorem run_at {s : Str} {k : Nat} {p : UInt8 → Bool} {j : Nat} (hj : j < Zn s k p) : p (s.getD (k + j) 0) = true := runE_all (Nat.le_refl _) j hj
theorem eqs_bytes (s : Str) : List.isPrefixOf [61, 61] s = true ↔ 2 ≤ s.length ∧ qA s 0 = 61 ∧ qA s 1 = 61 := by
  rcases s with _ | ⟨a, _ | ⟨b, s⟩⟩
  · simp
  · simp
  · have h0 : qA (a :: b :: s) 0 = a := by
      rw [show (0 : Int) = ((0 : Nat) : Int) from rfl, Qn (by simp)]
      rfl
    have h1 : qA (a :: b :: s) 1 = b := by
      rw [show (1 : Int) = ((1 : Nat) : Int) from rfl, Qn (by simp)]
      rfl
    rw [h0, h1]
    simp only [List.isPrefixOf, Bool.and_true, Bool.and_eq_true, beq_iff_eq, List.length_cons]
    constructor
    · rintro ⟨rfl, rfl⟩; exact ⟨by omega, rfl, rfl⟩
    · rintro ⟨_, rfl, rfl⟩; exact ⟨rfl, rfl⟩
theorem eqs_head {s : Str} (h : qA s 0 ≠ 61) : List.isPrefixOf [61, 61] s = false := by
  cases q : List.isPrefixOf [61, 61] s with
  | false => rfl
  | true => exact absurd ((eqs_bytes s).1 q).2.1 h
/-! ### Pictures -/
theorem re_picture {s : Str} {i : Nat} {is : Bool} (hi : i < s.length) (he : (Xu s i is).e = 0) (hk : (Xu s i is).kind ≠ 1) (hp : qA s i ≠ 32) :
    ∃ M, 0 < M ∧ i + M ≤ s.length ∧ (Xu s i is) = ⟨4, QK (Zh s i M), M, 0⟩ ∧ Xu (QK (Zh s i M)) 0 is = ⟨4, QK (Zh s i M), M, 0⟩ ∧ (∀ j, j < M → s.getD (i + j) 0 ≠ 32) ∧ 34 ∉ QK (Zh s i M) := by
  unfold Xu at he hk ⊢
  by_cases hc : is = true ∧ QK [qA s i, qA s ((i : Int) + 1)] = IS ∧ QP (qA s ((i : Int) + 2)) = false
  · rw [if_pos hc] at hk
    exact absurd rfl hk
  rw [if_neg hc] at he hk ⊢
  simp only at he hk ⊢
  have hn0 := run_pos32 hp
  have hn1 := runE_le s i (fun b => !decide (b = 32)) (by omega)
  have hrun := fun (j : Nat) => run_at (s := s) (k := i) (p := fun b => !decide (b = 32)) (j := j)
  have hstop := runE_stop (s := s) (p := fun b => !decide (b = 32)) (f := s.length) (i := i) (by omega)
  generalize Zn s i (fun b => !decide (b = 32)) = n0 at he hk hn0 hn1 hrun hstop ⊢
  obtain ⟨m, hm⟩ : ∃ m, m = (if endsB (qA s ((i : Int) + (n0 : Int) - 1)) = true then (n0 : Int) - 1 else (n0 : Int)) := ⟨_, rfl⟩
  rw [← hm] at he hk ⊢
  by_cases h1 : m = 0 ∨ endsB (qA s ((i : Int) + m - 1)) = true
  · rw [if_pos h1] at he
    exact absurd he (by simp [Nx.err])
  rw [if_neg h1] at he hk ⊢
  obtain ⟨M, hM⟩ : ∃ M : Nat, m = M := ⟨m.toNat, by rw [hm]; split <;> omega⟩
  subst hM
  have hM0 : 0 < M := by have := fun q => h1 (.inl q); omega
  have hMn : M ≤ n0 ∧ n0 ≤ M + 1 := by revert hm; split <;> omega
  have hme : M < n0 → endsB (qA s ((i : Int) + (M : Int))) = true := fun q => by
    revert hm
    split
    · rename_i z
      intro hm
      rwa [show (i : Int) + (n0 : Int) - 1 = (i : Int) + (M : Int) by omega] at z
    · omega
  rw [Int.toNat_natCast] at he hk ⊢
  have hcut : (s.drop i).take M = Zh s i M := rfl
  rw [hcut] at he hk ⊢
  have hlen := cut_len (s := s) (i := i) (n := M) (by omega)
  have hlf : (QK (Zh s i M)).length = M := by rw [foldE_len, hlen]
  have hb : ∀ j, j < M → s.getD (i + j) 0 ≠ 32 := fun j hj => by simpa using hrun j (by omega)
  by_cases h2 : (QK (Zh s i M)).contains 34 = true
  · rw [if_pos h2] at he
    exact absurd he (by simp [Nx.err])
  rw [if_neg h2] at he hk ⊢
  refine ⟨M, hM0, by omega, rfl, ?_, hb, fun q => h2 (List.contains_iff_mem.2 q)⟩
  have hgf : ∀ j, j < M → (QK (Zh s i M)).getD j 0 = XA (s.getD (i + j) 0) := fun j hj => by
    have : (QK (Zh s i M)).getD j 0 = XA ((Zh s i M).getD j 0) := by simp [QK, List.getD, hlen, hj]
    rw [this, cut_get hj]
  have hrunT : Zn (QK (Zh s i M)) 0 (fun b => !decide (b = 32)) = M := run_of (by omega) (fun j hj => by
    rw [Nat.zero_add, hgf j hj]
    have := hb j hj
    have := fun q => this ((foldB_32 (s.getD (i + j) 0)).1 q)
    simpa using this) (fun q => by omega)
  have hpk : ∀ j : Nat, j < M → qA (QK (Zh s i M)) (j : Int) = XA (qA s ((i : Int) + (j : Int))) := fun j hj => by rw [peek_fold, cut_peek (by omega) hj]
  have hpe : ∀ j : Int, (M : Int) ≤ j → qA (QK (Zh s i M)) j = 32 := fun j hj => peekE_ge (.inr (by omega))
  have hnis : ¬ (is = true ∧ QK [qA (QK (Zh s i M)) ((0 : Nat) : Int), qA (QK (Zh s i M)) (((0 : Nat) : Int) + 1)] = IS ∧ QP (qA (QK (Zh s i M)) (((0 : Nat) : Int) + 2)) = false) := by
    rintro ⟨q1, q2, q3⟩
    have hM2 : 2 ≤ M := by
      refine Nat.le_of_not_lt fun z => ?_
      rw [hpe (((0 : Nat) : Int) + 1) (by omega)] at q2
      simp only [QK, List.map_cons, List.map_nil, IS, List.cons.injEq, and_true] at q2
      exact absurd q2.2 (by decide)
    rw [hpk 0 (by omega), show ((0 : Nat) : Int) + 1 = ((1 : Nat) : Int) by omega, hpk 1 (by omega)] at q2
    simp only [QK, List.map_cons, List.map_nil, foldB_idem] at q2
    refine hc ⟨q1, ?_, ?_⟩
    · simp only [QK, List.map_cons, List.map_nil]
      rw [← q2]
      simp
    · by_cases hM3 : M = 2
      · by_cases z : M < n0
        · have := ends_wordy _ (hme z)
          rw [hM3] at this
          exact this
        · by_cases hl : i + n0 < s.length
          · have h32 := hstop hl
            have : s.getD (i + n0) 0 = 32 := by simpa using h32
            rw [show (i : Int) + 2 = ((i + n0 : Nat) : Int) by omega, Qn hl, this]
            decide
          · rw [peekE_ge (.inr (by omega))]
            decide
      · rw [show ((0 : Nat) : Int) + 2 = ((2 : Nat) : Int) by omega, hpk 2 (by omega), foldB_wordy] at q3
        exact q3
  rw [if_neg hnis, hrunT]
  have hlast : endsB (qA (QK (Zh s i M)) (((0 : Nat) : Int) + (M : Int) - 1)) = false := by
    rw [show ((0 : Nat) : Int) + (M : Int) - 1 = ((M - 1 : Nat) : Int) by omega, hpk (M - 1) (by omega), foldB_ends]
    have := fun z => h1 (.inr z)
    rw [show (i : Int) + (M : Int) - 1 = (i : Int) + ((M - 1 : Nat) : Int) by omega] at this
    exact Bool.eq_false_iff.2 this
  have hz : ¬ ((M : Int) = 0 ∨ endsB (qA (QK (Zh s i M)) (((0 : Nat) : Int) + (M : Int) - 1)) = true) := fun z => z.elim (fun y => by omega) (fun y => by rw [hlast] at y; cases y)
  rw [hlast]
  simp only [Bool.false_eq_true, if_false]
  rw [if_neg hz, Int.toNat_natCast, List.drop_zero, List.take_of_length_le (by omega), foldE_idem, if_neg h2]
/-! ### Literals -/
theorem quote_dbl : ∀ (x acc : Str) (n : Nat), acc ++ x ≠ [] → Xe (dblE x ++ [34]) acc n = ⟨3, acc ++ x, n + (dblE x).length + 1, 0⟩
  | [], acc, n, h => by
    rw [dblE, List.nil_append, quoteGo_end (by simp), if_neg (by simpa using h)]
    simp
  | b :: x, acc, n, h => by
    rw [dblE]
    by_cases hb : b = 34
    · subst hb
      rw [if_pos rfl, List.cons_append, List.cons_append, quoteGo_two, quote_dbl x _ _ (by simp)]
      simp only [List.append_assoc, List.cons_append, List.nil_append, List.length_cons, Nx.mk.injEq, true_and, and_true]
      omega
    · rw [if_neg hb, List.cons_append, quoteGo_other hb, quote_dbl x _ _ (by simp)]
      simp only [List.append_assoc, List.cons_append, List.nil_append, List.length_cons, Nx.mk.injEq, true_and, and_true]
      omega
/-! ### Numbers -/
theorem byte_digit (b : UInt8) : Xh b = true → b ≠ 34 ∧ b ≠ 61 ∧ b ≠ 46 ∧ b ≠ 32 ∧ b ≠ 43 ∧ b ≠ 45 ∧ b ≠ 44 ∧ b ≠ 59 := of_decide_eq_true (all_u8 (p := fun b => decide (Xh b = true → b ≠ 34 ∧ b ≠ 61 ∧ b ≠ 46 ∧ b ≠ 32 ∧ b ≠ 43 ∧ b ≠ 45 ∧ b ≠ 44 ∧ b ≠ 59)) (by decide +kernel) b)
theorem re_number {s : Str} {i : Nat} (hi : i < s.length) (hn : 0 < (Xy s i).n) :
    ∃ N, 0 < N ∧ i + N ≤ s.length ∧ Xy s i = ⟨2, Zh s i N, N, 0⟩ ∧ Xy (Zh s i N) 0 = ⟨2, Zh s i N, N, 0⟩ ∧ (qA s i = 46 → qA (Zh s i N) 1 ≠ 32) ∧ (qA s i = 43 ∨ qA s i = 45 ∨ qA s i = 46 ∨ Xh (qA s i) = true) ∧ (∀ j, j < N → Xh (s.getD (i + j) 0) = true ∨ s.getD (i + j) 0 = 46 ∨ s.getD (i + j) 0 = 43 ∨ s.getD (i + j) 0 = 45) := by
  obtain ⟨N, hN⟩ : ∃ N, N = Zl s i := ⟨_, rfl⟩
  have hle := numLen_le hi
  unfold Xy at hn
  obtain ⟨e, c1, c2, c3, c4⟩ := numF_pos hn
  have hpos := numLen_pos c2
  have hb := Bool.toNat_le (Qz s i)
  have hsg : (qA s i = 43 ∨ qA s i = 45) → Qz s i = true := fun q => by
    cases h : Qz s i with
    | true => rfl
    | false =>
      exfalso
      have hd0 : d0E s i = 0 := by
        unfold d0E
        rw [h, Bool.toNat_false, Nat.add_zero, runE_step, if_neg]
        rintro ⟨_, z⟩
        rw [← Qn hi] at z
        have := byte_digit _ z
        rcases q with q | q
        · exact this.2.2.2.2.1 q
        · exact this.2.2.2.2.2.1 q
      have hn1 : n1E s i = 0 := by unfold n1E; rw [h, hd0]; rfl
      have hdot : dotE s i = false := by
        cases hd : dotE s i with
        | false => rfl
        | true =>
          have := (dot_at hd).1
          rw [hn1] at this
          rw [show (i : Int) + ((0 : Nat) : Int) = (i : Int) by omega] at this
          rw [this] at q
          exact absurd q (by decide)
      unfold numDig at c2
      rw [hdot] at c2
      simp only [Bool.false_eq_true, if_false] at c2
      exact c2 hd0
  have hn1 : n1E s i = (Qz s i).toNat + d0E s i := rfl
  have hNl : Zl s i = if dotE s i = true then n1E s i + 1 + moreE s i else n1E s i := rfl
  have hND : numDig s i = if dotE s i = true then d0E s i + moreE s i else d0E s i := rfl
  have hn1N : n1E s i ≤ N := by rw [hN, hNl]; split <;> omega
  have hdig0 : ∀ j, j < d0E s i → Xh (s.getD (i + (Qz s i).toNat + j) 0) = true := fun j hj => run_at hj
  have hstop0 : i + n1E s i < s.length → Xh (s.getD (i + n1E s i) 0) = false := fun q => by
    have := runE_stop (s := s) (p := Xh) (f := s.length) (i := i + (Qz s i).toNat) (by omega) (by show _ + d0E s i < _; omega)
    rwa [show i + (Qz s i).toNat + Zn s (i + (Qz s i).toNat) Xh = i + n1E s i by show _ + d0E s i = _; omega] at this
  have hcl := cut_len (s := s) (i := i) (n := N) (by omega)
  have hp0 : qA (Zh s i N) ((0 : Nat) : Int) = qA s i := by rw [cut_peek (by omega) (by omega)]; congr 1
  have hs' : Qz (Zh s i N) 0 = Qz s i := by
    have hm : qA (Zh s i N) (((0 : Nat) : Int) - 1) = 32 := cut_end (by omega) (.inl (by omega))
    cases h : Qz s i with
    | true =>
      unfold Qz
      rw [hp0, hm]
      have := signed_byte h
      simpa using this
    | false =>
      cases h' : Qz (Zh s i N) 0 with
      | false => rfl
      | true =>
        have := signed_byte h'
        rw [show qA (Zh s i N) ((0 : Nat) : Int) = qA s i from hp0] at this
        rw [hsg this] at h
        cases h
  have hd' : d0E (Zh s i N) 0 = d0E s i := by
    unfold d0E
    rw [hs', Nat.zero_add]
    refine run_of (by rw [hcl]; show _ + d0E s i ≤ _; omega) (fun j hj => ?_) (fun q => ?_)
    · rw [cut_get (by rw [hN] at hn1N ⊢; have : j < d0E s i := hj; omega), show i + ((Qz s i).toNat + j) = i + (Qz s i).toNat + j by omega]
      exact hdig0 j hj
    · have q' : n1E s i < N := by rw [hcl] at q; exact q
      rw [show (Qz s i).toNat + Zn s (i + (Qz s i).toNat) Xh = n1E s i from rfl, cut_get q']
      exact hstop0 (by omega)
  have hn1' : n1E (Zh s i N) 0 = n1E s i := by unfold n1E; rw [hs', hd']
  have hdot' : dotE (Zh s i N) 0 = dotE s i := by
    have hu : dotE (Zh s i N) 0 = (decide (qA (Zh s i N) (((0 : Nat) : Int) + (n1E (Zh s i N) 0 : Nat)) = 46) && Xh (qA (Zh s i N) (((0 : Nat) : Int) + (n1E (Zh s i N) 0 : Nat) + 1))) := rfl
    rw [hu, hn1']
    cases hd : dotE s i with
    | false =>
      have hNe : N = n1E s i := by rw [hN, hNl, hd]; rfl
      have : qA (Zh s i N) (((0 : Nat) : Int) + (n1E s i : Nat)) = 32 := cut_end (by omega) (.inr (by omega))
      rw [this]
      rfl
    | true =>
      obtain ⟨q1, q2, q3⟩ := dot_at hd
      have hm : 0 < moreE s i := by
        have hin : i + n1E s i + 1 < s.length := by
          refine peekE_in (i := i + n1E s i + 1) fun z => ?_
          rw [show (i : Int) + (n1E s i : Nat) + 1 = ((i + n1E s i + 1 : Nat) : Int) by omega, z] at q2
          exact absurd q2 (by decide)
        refine runE_pos hin ?_
        rwa [show (i : Int) + (n1E s i : Nat) + 1 = ((i + n1E s i + 1 : Nat) : Int) by omega, Qn hin] at q2
      have hNe : N = n1E s i + 1 + moreE s i := by rw [hN, hNl, hd]; rfl
      have z1 : qA (Zh s i N) (((0 : Nat) : Int) + (n1E s i : Nat)) = 46 := by
        rw [show ((0 : Nat) : Int) + (n1E s i : Nat) = ((n1E s i : Nat) : Int) by omega, cut_peek (by omega) (by omega)]
        exact q1
      have z2 : qA (Zh s i N) (((0 : Nat) : Int) + (n1E s i : Nat) + 1) = qA s ((i : Int) + (n1E s i : Nat) + 1) := by
        rw [show ((0 : Nat) : Int) + (n1E s i : Nat) + 1 = ((n1E s i + 1 : Nat) : Int) by omega, cut_peek (by omega) (by omega)]
        congr 1
      rw [z1, z2, q2]
      rfl
  have hmore' : dotE s i = true → moreE (Zh s i N) 0 = moreE s i := fun hd => by
    have hNe : N = n1E s i + 1 + moreE s i := by rw [hN, hNl, hd]; rfl
    unfold moreE
    rw [hn1', Nat.zero_add]
    refine run_of (by rw [hcl]; show _ + moreE s i ≤ _; omega) (fun j hj => ?_) (fun q => ?_)
    · have hj' : j < moreE s i := hj
      rw [cut_get (by omega), show i + (n1E s i + 1 + j) = i + n1E s i + 1 + j by omega]
      exact run_at (s := s) (k := i + n1E s i + 1) (p := Xh) hj
    · have q' : n1E s i + 1 + moreE s i < N := by rw [hcl] at q; exact q
      omega
  have hNl' : Zl (Zh s i N) 0 = N := by
    unfold Zl
    rw [hdot', hn1']
    cases hd : dotE s i with
    | false =>
      have hNe : N = n1E s i := by rw [hN, hNl, hd]; rfl
      rw [if_neg (by simp)]
      exact hNe.symm
    | true =>
      have hNe : N = n1E s i + 1 + moreE s i := by rw [hN, hNl, hd]; rfl
      rw [if_pos rfl, hmore' hd]
      exact hNe.symm
  have hND' : numDig (Zh s i N) 0 = numDig s i := by
    unfold numDig
    rw [hdot', hd']
    cases hd : dotE s i with
    | false => rfl
    | true => rw [hmore' hd]
  have w1 : QP (qA (Zh s i N) (((0 : Nat) : Int) + (n1E s i : Nat))) = false := by
    cases hd : dotE s i with
    | false =>
      have hNe : N = n1E s i := by rw [hN, hNl, hd]; rfl
      rw [cut_end (by omega) (.inr (by omega))]
      rfl
    | true =>
      have hdd : dotE (Zh s i N) 0 = true := by rw [hdot', hd]
      have := (dot_at hdd).1
      rw [hn1'] at this
      rw [this]
      rfl
  have w2 : QP (qA (Zh s i N) (((0 : Nat) : Int) + (N : Nat))) = false := by
    rw [cut_end (by omega) (.inr (by omega))]
    rfl
  have htk : ∀ k, Tok.takeE s i k N = ⟨k, Zh s i N, N, 0⟩ := fun k => rfl
  have hbytes : ∀ j, j < N → Xh (s.getD (i + j) 0) = true ∨ s.getD (i + j) 0 = 46 ∨ s.getD (i + j) 0 = 43 ∨ s.getD (i + j) 0 = 45 := fun j hj => by
    by_cases h0 : j < (Qz s i).toNat
    · have hj0 : j = 0 := by omega
      have hs : Qz s i = true := by
        cases h : Qz s i with
        | true => rfl
        | false => rw [h] at h0; simp at h0
      subst hj0
      have := signed_byte hs
      rw [Qn hi] at this
      rw [Nat.add_zero]
      exact .inr (.inr this)
    · by_cases h1 : j < n1E s i
      · have := hdig0 (j - (Qz s i).toNat) (by omega)
        rw [show i + (Qz s i).toNat + (j - (Qz s i).toNat) = i + j by omega] at this
        exact .inl this
      · have hd : dotE s i = true := by
          cases h : dotE s i with
          | true => rfl
          | false => rw [hN, hNl, h] at hj; simp at hj; omega
        by_cases h2 : j = n1E s i
        · have h4 := (dot_at hd).1
          rw [show (i : Int) + ((n1E s i : Nat) : Int) = ((i + j : Nat) : Int) by omega, Qn (by omega)] at h4
          exact .inr (.inl h4)
        · have hNe : N = n1E s i + 1 + moreE s i := by rw [hN, hNl, hd]; rfl
          have := run_at (s := s) (p := Xh) (k := i + n1E s i + 1) (j := j - n1E s i - 1) (by show _ < moreE s i; omega)
          rw [show i + n1E s i + 1 + (j - n1E s i - 1) = i + j by omega] at this
          exact .inl this
  refine ⟨N, by omega, by omega, ?_, ?_, fun h46 => ?_, ?_, hbytes⟩
  · unfold Xy
    rw [e, ← hN, htk]
  · unfold Xy
    rw [hs', hd', hn1', hNl', hND', w1, w2]
    unfold numF
    rw [if_neg (fun q => by cases q.2), if_neg c2, if_neg (by simp), if_neg (by omega)]
    show Nx.mk 2 ((List.drop 0 (Zh s i N)).take N) N 0 = _
    rw [List.drop_zero, List.take_of_length_le (by omega)]
  · have hd : dotE s i = true := by
      cases h : dotE s i with
      | true => rfl
      | false =>
        exfalso
        have hs0 : Qz s i = false := by
          cases q : Qz s i with
          | false => rfl
          | true => have := signed_byte q; rw [h46] at this; exact absurd this (by decide)
        have : Xh (s.getD (i + (Qz s i).toNat + 0) 0) = true := hdig0 0 (by rw [hND, h] at c2; simp at c2; omega)
        rw [hs0] at this
        simp only [Bool.toNat_false, Nat.add_zero] at this
        rw [Qn hi] at h46
        rw [h46] at this
        exact absurd this (by decide)
    have hn0 : n1E s i = 0 := by
      refine Nat.eq_zero_of_not_pos fun q => ?_
      have hs0 : Qz s i = false := by
        cases q : Qz s i with
        | false => rfl
        | true => have := signed_byte q; rw [h46] at this; exact absurd this (by decide)
      have : Xh (s.getD (i + (Qz s i).toNat + 0) 0) = true := hdig0 0 (by rw [hn1, hs0] at q; simpa using q)
      rw [hs0] at this
      simp only [Bool.toNat_false, Nat.add_zero] at this
      rw [Qn hi] at h46
      rw [h46] at this
      exact absurd this (by decide)
    have hdd : dotE (Zh s i N) 0 = true := by rw [hdot', hd]
    have := (dot_at hdd).2.1
    rw [hn1', hn0] at this
    intro z
    rw [show ((0 : Nat) : Int) + ((0 : Nat) : Int) + 1 = 1 from rfl, z] at this
    exact absurd this (by decide)
  · rcases hbytes 0 (by omega) with q | q | q | q
    · rw [Nat.add_zero, ← Qn hi] at q; exact .inr (.inr (.inr q))
    · rw [Nat.add_zero, ← Qn hi] at q; exact .inr (.inr (.inl q))
    · rw [Nat.add_zero, ← Qn hi] at q; exact .inl q
    · rw [Nat.add_zero, ← Qn hi] at q; exact .inr (.inl q)
end Go.Proofs.YtmadddihphkmoaaGreatDoor

/-
  Plain: what Text joins is scanned into the same tokens.
  Conditions: none.
-/
namespace Go.Proofs.YtmadddihphkmoaaGreatDoor
open Go.AM
open Go.Proofs
open Go.Col
open Go.Tok
set_option maxRecDepth 100000

/-! ### Names -/
theorem re_name {s : Str} {i : Nat} (hi : i < s.length) (hw : QP (qA s i) = true) (h45 : qA s i ≠ 45) (he : (nameE s i).e = 0) :
    ∃ N, 0 < N ∧ i + N ≤ s.length ∧ nameE s i = ⟨1, QK (Zh s i N), N, 0⟩ ∧ nameE (QK (Zh s i N)) 0 = ⟨1, QK (Zh s i N), N, 0⟩ ∧ Xy (QK (Zh s i N)) 0 = .err 0 ∧ (∀ j, j < N → QP (s.getD (i + j) 0) = true) := by
  obtain ⟨N, hN⟩ : ∃ N, N = Zn s i QP := ⟨_, rfl⟩
  have hle := runE_le s i QP (by omega)
  have hpos : 0 < Zn s i QP := runE_pos hi (by rwa [Qn hi] at hw)
  have hall : ∀ j, j < N → QP (s.getD (i + j) 0) = true := fun j hj => run_at (by rw [← hN]; exact hj)
  rw [← hN] at hle hpos
  have hcl := cut_len (s := s) (i := i) (n := N) (by omega)
  obtain ⟨T, hT⟩ : ∃ T, T = QK (Zh s i N) := ⟨_, rfl⟩
  have hTl : T.length = N := by rw [hT, foldE_len, hcl]
  have hTg : ∀ j, j < N → T.getD j 0 = XA (s.getD (i + j) 0) := fun j hj => by
    have : (QK (Zh s i N)).getD j 0 = XA ((Zh s i N).getD j 0) := by simp [QK, List.getD, hcl, hj]
    rw [hT, this, cut_get hj]
  have hcut : QK ((s.drop i).take N) = T := by rw [hT]; rfl
  have hTf : QK T = T := by rw [hT, foldE_idem]
  unfold nameE at he
  simp only at he
  rw [← hN, hcut] at he
  have hname : nameE s i = if T.all (fun b => Xh b || decide (b = 45)) = true ∨ T.getD 0 0 = 45 ∨ T.getD (N - 1) 0 = 45 then .err 4 else if 30 < N then .err 5 else ⟨1, T, N, 0⟩ := by
    unfold nameE
    simp only
    rw [← hN, hcut]
  have hnameT : nameE T 0 = if T.all (fun b => Xh b || decide (b = 45)) = true ∨ T.getD 0 0 = 45 ∨ T.getD (N - 1) 0 = 45 then .err 4 else if 30 < N then .err 5 else ⟨1, T, N, 0⟩ := by
    have hr : Zn T 0 QP = N := run_of (by omega) (fun j hj => by rw [Nat.zero_add, hTg j hj, foldB_wordy]; exact hall j hj) (fun q => by omega)
    unfold nameE
    simp only
    rw [hr, List.drop_zero, List.take_of_length_le (by omega), hTf]
  by_cases d1 : T.all (fun b => Xh b || decide (b = 45)) = true ∨ T.getD 0 0 = 45 ∨ T.getD (N - 1) 0 = 45
  · rw [if_pos d1] at he
    exact absurd he (by simp [Nx.err])
  rw [if_neg d1] at he hname hnameT
  by_cases d2 : 30 < N
  · rw [if_pos d2] at he
    exact absurd he (by simp [Nx.err])
  rw [if_neg d2] at hname hnameT
  refine ⟨N, hpos, by omega, by rw [← hT]; exact hname, by rw [← hT]; exact hnameT, ?_, hall⟩
  rw [← hT]
  have hp0 : qA T ((0 : Nat) : Int) = XA (qA s i) := by rw [Qn (by omega), hTg 0 hpos, Nat.add_zero, Qn hi]
  obtain ⟨f1, f2, f3, f4, f5, f6⟩ := wordy_fold _ hw
  have hsg : Qz T 0 = false := by
    cases q : Qz T 0 with
    | false => rfl
    | true =>
      have := signed_byte q
      rw [hp0] at this
      rcases this with z | z
      · exact absurd z f4
      · exact absurd (f6 z) h45
  have hd0 : d0E T 0 = Zn T 0 Xh := by unfold d0E; rw [hsg]; rfl
  have hn1 : n1E T 0 = d0E T 0 := by unfold n1E; rw [hsg]; simp
  have hdl := runE_le T 0 Xh (by omega)
  rw [← hd0] at hdl
  have hlt : d0E T 0 < N := by
    refine Nat.lt_of_not_le fun q => d1 (.inl ?_)
    rw [List.all_eq_true]
    intro b hb
    obtain ⟨j, hj, rfl⟩ := List.mem_iff_getElem.1 hb
    have := run_at (s := T) (p := Xh) (k := 0) (j := j) (by rw [← hd0]; omega)
    rw [Nat.zero_add] at this
    have e : T.getD j 0 = T[j] := by simp [List.getD, hj]
    rw [e] at this
    rw [this]
    rfl
  have hw1 : QP (qA T (((0 : Nat) : Int) + (n1E T 0 : Nat))) = true := by
    rw [hn1, show ((0 : Nat) : Int) + (d0E T 0 : Nat) = ((d0E T 0 : Nat) : Int) by omega, Qn (by omega), hTg _ hlt, foldB_wordy]
    exact hall _ hlt
  unfold Xy
  rw [hw1, hsg]
  unfold numF
  by_cases hd : 0 < d0E T 0
  · rw [if_pos ⟨hd, rfl⟩]
    rfl
  · rw [if_neg (fun q => hd q.1)]
    have hdot : dotE T 0 = false := by
      cases q : dotE T 0 with
      | false => rfl
      | true =>
        have := (dot_at q).1
        rw [hn1, show d0E T 0 = 0 by omega, show ((0 : Nat) : Int) + ((0 : Nat) : Int) = ((0 : Nat) : Int) from rfl, hp0] at this
        exact absurd this f2
    have hnd : numDig T 0 = 0 := by unfold numDig; rw [hdot]; simp; omega
    rw [if_pos hnd]
/-! ### A token again -/
theorem sign_again : ∀ g ∈ signs, QJ g 0 [] = ⟨5, g, g.length, 0⟩ ∧ (qA g 0 ≠ 32 ∧ (false = false → sepB (qA g 0) = false)) ∧ g.all okB = true ∧ g.getLast? ≠ some 32 ∧ g ≠ [] := by decide +kernel
/-- A token whose text, behind other tokens, is read as this token. -/
structure Fits (p : List TokC) (t : TokC) : Prop where
  next : QJ (Xm t) 0 p = ⟨t.kind, t.text, (Xm t).length, 0⟩
  pos : 0 < (Xm t).length
  skip : qA (Xm t) 0 ≠ 32 ∧ ((QM p).1 = false → sepB (qA (Xm t) 0) = false)
  ok : (Xm t).all okB = true
  last : (Xm t).getLast? ≠ some 32
theorem skp_of {s : Str} {next : Bool} (h : qA s 0 ≠ 32) (h2 : next = false → sepB (qA s 0) = false) : qA s 0 ≠ 32 ∧ (next = false → sepB (qA s 0) = false) := ⟨h, h2⟩
theorem Fits.nskp {l : List TokC} {t : TokC} (h : Fits l t) : ¬ skp (Xm t) (QM l).1 0 := by
  rintro (q | ⟨q1, q2, _⟩)
  · exact h.skip.1 q
  · have := h.skip.2 q1
    rw [show ((0 : Nat) : Int) = 0 from rfl] at q2
    rw [this] at q2
    cases q2
theorem getLast_getD {s : Str} (h : 0 < s.length) : s.getLast? = some (s.getD (s.length - 1) 0) := by
  rw [List.getLast?_eq_getElem?]
  simp [List.getD, show s.length - 1 < s.length by omega]
theorem all_cut {s : Str} (h : s.all okB = true) (i n : Nat) : (Zh s i n).all okB = true := all_take (all_drop h i) n
theorem all_fold {s : Str} (h : s.all okB = true) : (QK s).all okB = true := by
  rw [List.all_eq_true] at h ⊢
  intro b hb
  obtain ⟨c, hc, rfl⟩ := List.mem_map.1 hb
  exact foldB_ok _ (h c hc)
theorem all_dbl : ∀ {s : Str}, s.all okB = true → (dblE s).all okB = true
  | [], _ => rfl
  | b :: s, h => by
    simp only [List.all_cons, Bool.and_eq_true] at h
    rw [dblE]
    split
    · simp only [List.all_cons, Bool.and_eq_true]; exact ⟨by decide, by decide, all_dbl h.2⟩
    · simp only [List.all_cons, Bool.and_eq_true]; exact ⟨h.1, all_dbl h.2⟩
theorem quoteGo_all : ∀ (k : Nat) (r acc : Str) (n : Nat), r.length ≤ k → r.all okB = true → acc.all okB = true → (Xe r acc n).text.all okB = true
  | 0, r, acc, n, hk, _, _ => by
    have : r = [] := List.eq_nil_of_length_eq_zero (by omega)
    subst this
    rw [quoteGo_nil]
    rfl
  | k + 1, [], acc, n, _, _, _ => by rw [quoteGo_nil]; rfl
  | k + 1, b :: r, acc, n, hk, hr, ha => by
    simp only [List.all_cons, Bool.and_eq_true] at hr
    rw [List.length_cons] at hk
    by_cases hb : b = 34
    · subst hb
      by_cases h2 : r.head? = some 34
      · cases r with
        | nil => cases h2
        | cons c r =>
          obtain rfl : c = 34 := by simpa using h2
          rw [quoteGo_two]
          simp only [List.all_cons, Bool.and_eq_true] at hr
          rw [List.length_cons] at hk
          exact quoteGo_all k r _ _ (by omega) hr.2.2 (by rw [List.all_append, ha]; rfl)
      · rw [quoteGo_end h2]
        split
        · rfl
        · exact ha
    · rw [quoteGo_other hb]
      exact quoteGo_all k r _ _ (by omega) hr.2 (by rw [List.all_append, ha]; simp [hr.1])
theorem quoteGo_dbl : ∀ (k : Nat) (r acc : Str) (n : Nat), r.length ≤ k → (Xe r acc n).e = 0 → (dblE acc).length + (Xe r acc n).n = n + (dblE (Xe r acc n).text).length + 1
  | 0, r, acc, n, hk, he => by
    have : r = [] := List.eq_nil_of_length_eq_zero (by omega)
    subst this
    rw [quoteGo_nil] at he
    exact absurd he (by simp [Nx.err])
  | k + 1, [], acc, n, _, he => by
    rw [quoteGo_nil] at he
    exact absurd he (by simp [Nx.err])
  | k + 1, b :: r, acc, n, hk, he => by
    rw [List.length_cons] at hk
    by_cases hb : b = 34
    · subst hb
      by_cases h2 : r.head? = some 34
      · cases r with
        | nil => cases h2
        | cons c r =>
          obtain rfl : c = 34 := by simpa using h2
          rw [quoteGo_two] at he ⊢
          rw [List.length_cons] at hk
          have := quoteGo_dbl k r _ _ (by omega) he
          rw [dblE_app, List.length_append, show (dblE [34]).length = 2 from rfl] at this
          omega
      · rw [quoteGo_end h2] at he ⊢
        split at he
        · exact absurd he (by simp [Nx.err])
        · rename_i h
          rw [if_neg h]
          simp only
          omega
    · rw [quoteGo_other hb] at he ⊢
      have := quoteGo_dbl k r _ _ (by omega) he
      rw [dblE_app, List.length_append, show (dblE [b]).length = 1 by rw [dblE, if_neg hb]; rfl] at this
      omega
theorem next_fits {s : Str} {i : Nat} {l : List TokC} (h : qA s i ≠ 32) (he : (QJ s i l).e = 0) (hs : s.all okB = true) {t : TokC} (hk : t.kind = (QJ s i l).kind) (hx : t.text = (QJ s i l).text) : Fits l t ∧ (Xm t).length ≤ (QJ s i l).n := by
  have hi := peekE_in h
  have hcases := he
  obtain ⟨tk, tx, t3, t4, t5⟩ := t
  simp only at hk hx
  subst hk
  subst hx
  unfold QJ at hcases
  simp only at hcases
  by_cases c1 : (QM l).1 = true ∧ List.isPrefixOf [61, 61] (s.drop i) = false
  · -- behind PICTURE
    rw [if_pos c1] at hcases
    have hN : QJ s i l = Xu s i (QM l).2 := by unfold QJ; simp only; rw [if_pos c1]
    rw [hN]
    by_cases hk1 : (Xu s i (QM l).2).kind = 1
    · -- the word IS
      have hshape : (QM l).2 = true ∧ Xu s i (QM l).2 = ⟨1, IS, 2, 0⟩ := by
        unfold Xu at hk1 ⊢
        by_cases hc : (QM l).2 = true ∧ QK [qA s i, qA s ((i : Int) + 1)] = IS ∧ QP (qA s ((i : Int) + 2)) = false
        · rw [if_pos hc]
          exact ⟨hc.1, rfl⟩
        · rw [if_neg hc] at hk1
          simp only at hk1
          generalize Zn s i (fun b => !decide (b = 32)) = n0 at hk1
          generalize (if endsB (qA s ((i : Int) + (n0 : Int) - 1)) = true then (n0 : Int) - 1 else (n0 : Int)) = m at hk1
          by_cases z1 : m = 0 ∨ endsB (qA s ((i : Int) + m - 1)) = true
          · rw [if_pos z1] at hk1
            exact absurd hk1 (by decide)
          · rw [if_neg z1] at hk1
            by_cases z2 : (QK ((s.drop i).take m.toNat)).contains 34 = true
            · rw [if_pos z2] at hk1
              exact absurd hk1 (by decide)
            · rw [if_neg z2] at hk1
              have hk4 : (4 : UInt8) = 1 := hk1
              exact absurd hk4 (by decide)
      obtain ⟨his, hsh⟩ := hshape
      rw [hsh]
      have hp : QM l = (true, true) := Prod.ext c1.1 his
      have e : Xm ⟨1, IS, t3, t4, t5⟩ = IS := rfl
      refine ⟨⟨?_, ?_, ?_, ?_, ?_⟩, ?_⟩
      · rw [e]
        show QJ IS 0 l = ⟨1, IS, 2, 0⟩
        unfold QJ
        rw [hp]
        decide +kernel
      · rw [e]; decide
      · rw [e]; exact skp_of (by decide) (fun _ => by decide)
      · rw [e]; decide
      · rw [e]; decide
      · rw [e]; decide
    · obtain ⟨M, m1, m2, m3, m4, m5, m6⟩ := re_picture hi hcases hk1 h
      rw [m3]
      obtain ⟨T, hT⟩ : ∃ T, T = QK (Zh s i M) := ⟨_, rfl⟩
      rw [← hT] at m4 m6 ⊢
      have hcl := cut_len (s := s) (i := i) (n := M) (by omega)
      have hTl : T.length = M := by rw [hT, foldE_len, hcl]
      have hTg : ∀ j, j < M → T.getD j 0 = XA (s.getD (i + j) 0) := fun j hj => by
        have : (QK (Zh s i M)).getD j 0 = XA ((Zh s i M).getD j 0) := by simp [QK, List.getD, hcl, hj]
        rw [hT, this, cut_get hj]
      have hne : ∀ j, j < M → T.getD j 0 ≠ 32 := fun j hj => by rw [hTg j hj]; exact fun q => m5 j hj ((foldB_32 _).1 q)
      have e : Xm ⟨4, T, t3, t4, t5⟩ = T := rfl
      have hp0 : qA T 0 = T.getD 0 0 := by
        have := Qn (s := T) (i := 0) (by omega)
        exact this
      have heq : List.isPrefixOf [61, 61] T = false := by
        cases q : List.isPrefixOf [61, 61] T with
        | false => rfl
        | true =>
          exfalso
          obtain ⟨q1, q2, q3⟩ := (eqs_bytes T).1 q
          have q3' : T.getD 1 0 = 61 := by
            have := Qn (s := T) (i := 1) (by omega)
            rw [← this]; exact q3
          rw [hp0, hTg 0 (by omega), foldB_61, Nat.add_zero] at q2
          rw [hTg 1 (by omega), foldB_61] at q3'
          have : List.isPrefixOf [61, 61] (s.drop i) = true := by
            rw [drop_eq hi, drop_eq (by omega), q2, q3']
            rfl
          rw [this] at c1
          exact absurd c1.2 (by simp)
      refine ⟨⟨?_, ?_, ?_, ?_, ?_⟩, ?_⟩
      · rw [e]
        unfold QJ
        simp only [List.drop_zero]
        rw [heq, if_pos ⟨c1.1, rfl⟩, m4, hTl]
      · rw [e]; omega
      · rw [e]; exact skp_of (by rw [hp0]; exact hne 0 (by omega)) (fun q => by rw [c1.1] at q; cases q)
      · rw [e, hT]; exact all_fold (all_cut hs _ _)
      · rw [e, getLast_getD (by omega)]
        exact fun q => hne _ (by omega) (Option.some.inj q)
      · rw [e, hTl]; exact Nat.le_refl _
  rw [if_neg c1] at hcases
  by_cases c4 : List.isPrefixOf [61, 61] (s.drop i) = true
  · -- a pseudo-text delimiter
    have hb : qA s i = 61 := by
      have h0 : qA (s.drop i) 0 = qA s i := by
        have := Qn (s := s.drop i) (i := 0) (by rw [List.length_drop]; omega)
        rw [show (0 : Int) = ((0 : Nat) : Int) from rfl, this, Qn hi]
        simp [List.getD]
      rw [← h0]
      exact ((eqs_bytes _).1 c4).2.1
    have hN : QJ s i l = ⟨7, [61, 61], 2, 0⟩ := by
      unfold QJ
      simp only
      rw [if_neg c1, if_neg (by rw [hb]; decide), if_neg (by rw [hb]; exact fun q => absurd q.1 (by decide)), if_pos c4]
      unfold Tok.takeE
      obtain ⟨r, hr⟩ := List.isPrefixOf_iff_prefix.1 c4
      rw [← hr]
      rfl
    rw [hN]
    have e : Xm ⟨7, [61, 61], t3, t4, t5⟩ = [61, 61] := rfl
    have key : ∀ b c : Bool, ∀ p : List TokC, QM p = (b, c) → QJ [61, 61] 0 p = ⟨7, [61, 61], 2, 0⟩ := fun b c p hp => by
      unfold QJ
      rw [hp]
      clear hp
      revert b c
      decide +kernel
    refine ⟨⟨?_, ?_, ?_, ?_, ?_⟩, ?_⟩
    · rw [e]; exact key _ _ l rfl
    · rw [e]; decide
    · rw [e]; exact skp_of (by decide) (fun _ => by decide)
    · rw [e]; decide
    · rw [e]; decide
    · rw [e]; decide
  have c4' : List.isPrefixOf [61, 61] (s.drop i) = false := Bool.eq_false_iff.2 c4
  have hpl : (QM l).1 = false := Bool.eq_false_iff.2 fun q => c1 ⟨q, c4'⟩
  have hpic : QM l = (false, false) := by
    cases q : (QM l).2 with
    | false => exact Prod.ext hpl q
    | true => have := pic_21 l q; rw [hpl] at this; cases this
  have hpn : QM l = QM [] := by rw [hpic]; rfl
  by_cases c2 : qA s i = 34
  · -- a literal
    rw [if_pos c2] at hcases
    have hN : QJ s i l = quoteE s i := by unfold QJ; simp only; rw [if_neg c1, if_pos c2]
    rw [hN]
    unfold quoteE at hcases ⊢
    have hok := quoteGo_ok _ _ _ _ (Nat.le_refl _) hcases
    have hall := quoteGo_all _ (s.drop (i + 1)) [] 1 (Nat.le_refl _) (all_drop hs _) rfl
    have hdl := quoteGo_dbl _ _ _ _ (Nat.le_refl _) hcases
    obtain ⟨Q, hQ⟩ : ∃ Q, Q = Xe (s.drop (i + 1)) [] 1 := ⟨_, rfl⟩
    rw [← hQ] at hok hall hdl ⊢
    obtain ⟨o1, o2, o3, o4⟩ := hok
    have e : Xm ⟨Q.kind, Q.text, t3, t4, t5⟩ = 34 :: dblE Q.text ++ [34] := by rw [o4]; rfl
    have h0 : qA (34 :: dblE Q.text ++ [34]) ((0 : Nat) : Int) = 34 := by
      have := Qn (s := 34 :: dblE Q.text ++ [34]) (i := 0) (by simp)
      exact this
    refine ⟨⟨?_, ?_, ?_, ?_, ?_⟩, ?_⟩
    · rw [e, next_picE hpn]
      unfold QJ
      simp only [List.drop_zero]
      rw [if_neg (fun q => absurd q.1 (by decide)), if_pos h0]
      unfold quoteE
      rw [List.cons_append, Nat.zero_add, List.drop_succ_cons, List.drop_zero, quote_dbl Q.text [] 1 (by simpa using o3), o4]
      simp only [List.nil_append, List.length_cons, List.length_append, List.length_nil, Nx.mk.injEq, true_and, and_true]
      omega
    · rw [e]; simp
    · rw [e]; exact skp_of (by rw [show (0 : Int) = ((0 : Nat) : Int) from rfl, h0]; decide) (fun _ => by rw [show (0 : Int) = ((0 : Nat) : Int) from rfl, h0]; decide)
    · rw [e, List.cons_append, List.all_cons, List.all_append, all_dbl hall]; decide
    · rw [e, List.getLast?_append]; exact fun q => absurd (show (some (34 : UInt8)) = some 32 from q) (by decide)
    · rw [e]
      simp only [List.cons_append, List.length_cons, List.length_append, List.length_nil]
      have : (dblE []).length = 0 := rfl
      omega
  rw [if_neg c2] at hcases
  by_cases c3 : qA s i = 46 ∧ qA s ((i : Int) + 1) = 32
  · -- a period
    have hN : QJ s i l = ⟨6, [46], 1, 0⟩ := by
      unfold QJ
      simp only
      rw [if_neg c1, if_neg c2, if_pos c3]
      unfold Tok.takeE
      rw [take_one hi, c3.1]
    rw [hN]
    have e : Xm ⟨6, [46], t3, t4, t5⟩ = [46] := rfl
    refine ⟨⟨?_, ?_, ?_, ?_, ?_⟩, ?_⟩
    · rw [e, next_picE hpn]
      show QJ [46] 0 [] = ⟨6, [46], 1, 0⟩
      decide +kernel
    · rw [e]; decide
    · rw [e]; exact skp_of (by decide) (fun _ => by decide)
    · rw [e]; decide
    · rw [e]; decide
    · rw [e]; decide
  rw [if_neg c3, if_neg c4] at hcases
  by_cases c5 : 0 < (Xy s i).n ∨ (Xy s i).e ≠ 0
  · -- a number
    rw [if_pos c5] at hcases
    have hN : QJ s i l = Xy s i := by unfold QJ; simp only; rw [if_neg c1, if_neg c2, if_neg c3, if_neg c4, if_pos c5]
    obtain ⟨N, n1, n2, n3, n4, n5, n6, n7⟩ := re_number hi (c5.resolve_right (fun q => q hcases))
    rw [hN, n3]
    obtain ⟨T, hT⟩ : ∃ T, T = Zh s i N := ⟨_, rfl⟩
    rw [← hT] at n4 n5 ⊢
    have hTl : T.length = N := by rw [hT, cut_len (by omega)]
    have e : Xm ⟨2, T, t3, t4, t5⟩ = T := rfl
    have hp0 : qA T ((0 : Nat) : Int) = qA s i := by rw [hT, cut_peek (by omega) (by omega)]; congr 1
    have hp0' : qA T 0 = qA s i := hp0
    have hbyte : qA s i ≠ 61 ∧ qA s i ≠ 34 ∧ sepB (qA s i) = false := by
      rcases n6 with q | q | q | q
      · rw [q]; decide
      · rw [q]; decide
      · rw [q]; decide
      · obtain ⟨b1, b2, b3, b4, b5, b6, b7, b8⟩ := byte_digit _ q
        refine ⟨b2, b1, ?_⟩
        unfold sepB
        rw [decide_eq_false b7, decide_eq_false b8]
        rfl
    have hlast : ∀ j, j < N → T.getD j 0 ≠ 32 := fun j hj => by
      rw [hT, cut_get hj]
      rcases n7 j hj with q | q | q | q
      · exact (byte_digit _ q).2.2.2.1
      · rw [q]; decide
      · rw [q]; decide
      · rw [q]; decide
    refine ⟨⟨?_, ?_, ?_, ?_, ?_⟩, ?_⟩
    · rw [e, next_picE hpn]
      unfold QJ
      simp only [List.drop_zero]
      rw [if_neg (fun q => absurd q.1 (by decide)), hp0, if_neg hbyte.2.1, if_neg (fun q => n5 q.1 (by have := q.2; rwa [show ((0 : Nat) : Int) + 1 = 1 from rfl] at this)), eqs_head (by rw [hp0']; exact hbyte.1), if_neg (by simp), n4, if_pos (.inl n1), hTl]
    · rw [e]; omega
    · rw [e]; exact skp_of (by rw [hp0']; exact h) (fun _ => by rw [hp0']; exact hbyte.2.2)
    · rw [e, hT]; exact all_cut hs _ _
    · rw [e, getLast_getD (by omega)]
      exact fun q => hlast _ (by omega) (Option.some.inj q)
    · rw [e, hTl]; exact Nat.le_refl _
  rw [if_neg c5] at hcases
  by_cases c6 : QP (qA s i) = true ∧ qA s i ≠ 45
  · -- a word
    rw [if_pos c6] at hcases
    have hN : QJ s i l = nameE s i := by unfold QJ; simp only; rw [if_neg c1, if_neg c2, if_neg c3, if_neg c4, if_neg c5, if_pos c6]
    obtain ⟨N, n1, n2, n3, n4, n5, n6⟩ := re_name hi c6.1 c6.2 hcases
    rw [hN, n3]
    obtain ⟨T, hT⟩ : ∃ T, T = QK (Zh s i N) := ⟨_, rfl⟩
    rw [← hT] at n4 n5 ⊢
    have hcl := cut_len (s := s) (i := i) (n := N) (by omega)
    have hTl : T.length = N := by rw [hT, foldE_len, hcl]
    have e : Xm ⟨1, T, t3, t4, t5⟩ = T := rfl
    have hp0 : qA T ((0 : Nat) : Int) = XA (qA s i) := by rw [hT, peek_fold, cut_peek (by omega) (by omega)]; congr 2
    have hp0' : qA T 0 = XA (qA s i) := hp0
    obtain ⟨f1, f2, f3, f4, f5, f6⟩ := wordy_fold _ c6.1
    have hsep : sepB (XA (qA s i)) = false := by
      have key : ∀ b : UInt8, QP b = true → sepB (XA b) = false := fun b => of_decide_eq_true (all_u8 (p := fun b => decide (QP b = true → sepB (XA b) = false)) (by decide +kernel) b)
      exact key _ c6.1
    have hw45 : QP (XA (qA s i)) = true ∧ XA (qA s i) ≠ 45 := ⟨by rw [foldB_wordy]; exact c6.1, fun q => c6.2 (f6 q)⟩
    refine ⟨⟨?_, ?_, ?_, ?_, ?_⟩, ?_⟩
    · rw [e, next_picE hpn]
      unfold QJ
      simp only [List.drop_zero]
      rw [if_neg (fun q => absurd q.1 (by decide)), hp0, if_neg f1, if_neg (fun q => f2 q.1), eqs_head (by rw [hp0']; exact f3), if_neg (by simp), n5, if_neg (by simp [Nx.err]), if_pos hw45, n4, hTl]
    · rw [e]; omega
    · rw [e]; exact skp_of (by rw [hp0']; exact f5) (fun _ => by rw [hp0']; exact hsep)
    · rw [e, hT]; exact all_fold (all_cut hs _ _)
    · rw [e, getLast_getD (by omega), hTl]
      intro q
      have q := Option.some.inj q
      have hg : T.getD (N - 1) 0 = XA (s.getD (i + (N - 1)) 0) := by
        have : (QK (Zh s i N)).getD (N - 1) 0 = XA ((Zh s i N).getD (N - 1) 0) := by simp [QK, List.getD, hcl, show N - 1 < N by omega]
        rw [hT, this, cut_get (by omega)]
      rw [hg] at q
      exact (wordy_fold _ (n6 (N - 1) (by omega))).2.2.2.2.1 q
    · rw [e, hTl]; exact Nat.le_refl _
  rw [if_neg c6] at hcases
  -- a sign
  have hN : QJ s i l = signE s i := by unfold QJ; simp only; rw [if_neg c1, if_neg c2, if_neg c3, if_neg c4, if_neg c5, if_neg c6]
  rw [hN]
  unfold signE at hcases ⊢
  split at hcases
  · rename_i g hg
    have hm := List.mem_of_find?_eq_some hg
    have hp := List.find?_some hg
    obtain ⟨r, hr⟩ := List.isPrefixOf_iff_prefix.1 hp
    obtain ⟨g1, g2, g3, g4, g5⟩ := sign_again g hm
    have htk : Tok.takeE s i 5 g.length = ⟨5, g, g.length, 0⟩ := by
      unfold Tok.takeE
      rw [← hr, List.take_left]
    rw [htk]
    have e : Xm ⟨5, g, t3, t4, t5⟩ = g := rfl
    refine ⟨⟨?_, ?_, ?_, ?_, ?_⟩, ?_⟩
    · rw [e, next_picE hpn]; exact g1
    · rw [e]; exact List.length_pos_iff.2 g5
    · rw [e, hpl]; exact g2
    · rw [e]; exact g3
    · rw [e]; exact g4
    · rw [e]; exact Nat.le_refl _
  · exact absurd hcases (by decide)
end Go.Proofs.YtmadddihphkmoaaGreatDoor

/-
  The law TokensScan.
  Conditions: none.
-/
namespace Go.Proofs.YtmadddihphkmoaaGreatDoor
open Go.AM
open Go.Proofs
open Go.Col
open Go.Tok
open Go.RowKit (Below)
set_option maxRecDepth 100000

end Go.Proofs.YtmadddihphkmoaaGreatDoor

/-
  The law TokensErrors.
  Conditions: none.
-/
namespace Go.Proofs.YtmadddihphkmoaaGreatDoor
open Go.AM
open Go.Proofs
open Go.Col
open Go.Tok
open Go.RowKit (Below)
set_option maxRecDepth 100000

end Go.Proofs.YtmadddihphkmoaaGreatDoor

/-
  The law TokensLines.
  Conditions: none.
-/
namespace Go.Proofs.YtmadddihphkmoaaGreatDoor
open Go.AM
open Go.Proofs
open Go.Col
open Go.Tok
open Go.RowKit (Below)
set_option maxRecDepth 100000

end Go.Proofs.YtmadddihphkmoaaGreatDoor

/-
  Plain: tokens that are formatted and laid out; how many lines Write lays out; what is read of a source text.
  Conditions: none.
-/
namespace Go.Proofs.YtmadddihphkmoaaGreatDoor
open Go.AM
open Go.Proofs
open Go.Col
open Go.Tok
set_option maxRecDepth 100000

/-! ### Tokens each of which is read again behind those before -/
inductive FitsAll : List TokC → Prop
  | nil : FitsAll []
  | snoc {l : List TokC} {t : TokC} : FitsAll l → Fits l t → FitsAll (l ++ [t])
theorem Fits.of_kt {l m : List TokC} {t : TokC} (h : Fits l t) (hk : m.map kt = l.map kt) : Fits m t :=
  ⟨by rw [nextE_kt hk]; exact h.next, h.pos, by rw [picE_kt hk]; exact h.skip, h.ok, h.last⟩
theorem Fits.head {l : List TokC} {t : TokC} (h : Fits l t) : qA (Xm t) 0 ≠ 32 := h.skip.1
theorem Fits.odd {l : List TokC} {t : TokC} (h : Fits l t) : Qy (Xm t) = false := by
  have h1 := next_par (s := Xm t) (i := 0) (l := l) h.head (by rw [h.next])
  rw [h.next] at h1
  simp only [List.drop_zero, List.take_length] at h1
  exact h1
theorem Fits.abs {l : List TokC} {t : TokC} (h : Fits l t) (hl : l.length < 65536) : absE (Xm t) 0 l = (l ++ [tokN ⟨t.kind, t.text, (Xm t).length, 0⟩], 0) := by
  have hp := h.pos
  have hs : Xb (Xm t) (QM l).1 0 = 0 := by rw [Zd, if_neg (by omega), if_neg h.nskp]
  have he : errE ⟨t.kind, t.text, (Xm t).length, 0⟩ l.length = 0 := by unfold errE; rw [if_neg (fun q => by omega)]
  rw [absE_step, hs, h.next, if_neg (by omega), he, if_neg (by simp), absE_step, if_pos]
  have := skipE_ge (Xm t) (QM (l ++ [tokN ⟨t.kind, t.text, (Xm t).length, 0⟩])).1 (0 + (Xm t).length)
  simp only at this ⊢
  omega
theorem join_two (a b : Str) (l : List Str) : Lib.join (a :: b :: l) [32] = a ++ 32 :: Lib.join (b :: l) [32] := by
  have e : Lib.join (a :: b :: l) [32] = a ++ [32] ++ Lib.join (b :: l) [32] := by
    unfold Lib.join
    rw [List.intercalate_cons_cons]
  rw [e]
  simp
theorem join_one (a : Str) : Lib.join [a] [32] = a := by simp [Lib.join]
theorem join_snoc : ∀ (l : List Str) (b : Str), l ≠ [] → Lib.join (l ++ [b]) [32] = Lib.join l [32] ++ 32 :: b
  | [], b, h => absurd rfl h
  | [a], b, _ => by
    show Lib.join [a, b] [32] = _
    rw [join_two, join_one, join_one]
  | a :: c :: l, b, _ => by
    show Lib.join (a :: c :: (l ++ [b])) [32] = _
    rw [join_two, join_two, show c :: (l ++ [b]) = (c :: l) ++ [b] from rfl, join_snoc (c :: l) b (by simp)]
    simp
theorem text_snoc {l : List TokC} (t : TokC) (h : l ≠ []) : textE (l ++ [t]) = textE l ++ 32 :: Xm t := by
  unfold Go.Proofs.YtmadddihphkmoaaGreatDoor.textE
  rw [List.map_append]
  exact join_snoc _ _ (by simpa using h)
theorem text_one (t : TokC) : textE [t] = Xm t := join_one _
structure TextBack (l : List TokC) : Prop where
  abs : ∃ m, absE (textE l) 0 [] = (m, 0) ∧ m.map kt = l.map kt
  odd : Qy (textE l) = false
  ok : (textE l).all okB = true
  head : qA (textE l) 0 ≠ 32
  last : (textE l).getLast? ≠ some 32
  pos : 0 < (textE l).length
  sep : sepB (qA (textE l) 0) = false
theorem text_back {l : List TokC} (h : FitsAll l) : l.length ≤ 65536 → l ≠ [] → TextBack l := by
  induction h with
  | nil => intro _ h; exact absurd rfl h
  | @snoc l t hl ht ih =>
    intro hn _
    rw [List.length_append, List.length_cons, List.length_nil] at hn
    by_cases hl0 : l = []
    · subst hl0
      rw [List.nil_append]
      have e := text_one t
      exact ⟨by rw [e]; exact ⟨_, ht.abs (by simp), rfl⟩, by rw [e]; exact ht.odd, by rw [e]; exact ht.ok, by rw [e]; exact ht.head, by rw [e]; exact ht.last, by rw [e]; exact ht.pos, by rw [e]; exact ht.skip.2 rfl⟩
    · have hb := ih (by omega) hl0
      obtain ⟨m, hm1, hm2⟩ := hb.abs
      have e := text_snoc t hl0
      have hml : m.length = l.length := by have := congrArg List.length hm2; simpa using this
      have htp := ht.pos
      refine ⟨⟨m ++ [tokN ⟨t.kind, t.text, (Xm t).length, 0⟩], ?_, ?_⟩, ?_, ?_, ?_, ?_, ?_, ?_⟩
      · rw [e, abs_cut [] hb.odd, hm1]
        unfold thenE
        rw [if_neg (by simp)]
        exact (ht.of_kt hm2).abs (by omega)
      · rw [List.map_append, List.map_append, hm2]
        rfl
      · rw [e, odd_append, odd_cons, hb.odd, ht.odd]
        rfl
      · rw [e, List.all_append, List.all_cons, hb.ok, ht.ok]
        decide
      · rw [e, peek_app (by have := hb.pos; omega)]
        exact hb.head
      · rw [e, List.getLast?_append]
        cases q : (32 :: Xm t).getLast? with
        | none => simp at q
        | some x =>
          have q2 : (Xm t).getLast? = some x := by
            cases hT : Xm t with
            | nil => rw [hT] at htp; simp at htp
            | cons a r =>
              rw [hT] at q
              rw [← q, List.getLast?_cons_cons]
          have := ht.last
          rw [q2] at this
          simpa using this
      · rw [e, List.length_append, List.length_cons]; omega
      · rw [e, peek_app (by have := hb.pos; omega)]
        exact hb.sep
theorem back_right {l : List TokC} (h : TextBack l) : rightE (textE l) = true := by
  have hp := h.pos
  have hne : textE l ≠ [] := fun e => by rw [e] at hp; simp at hp
  have hh := h.head
  rw [show (0 : Int) = ((0 : Nat) : Int) from rfl, Qn hp] at hh
  unfold rightE
  rw [decide_eq_false hne, h.ok, decide_eq_false hh, decide_eq_false h.last, h.odd]
  rfl
def sumT (l : List TokC) : Nat := (l.map fun t => (Xm t).length + 1).sum
theorem sumT_snoc (l : List TokC) (t : TokC) : sumT (l ++ [t]) = sumT l + ((Xm t).length + 1) := by
  unfold sumT
  rw [List.map_append, List.sum_append]
  simp
theorem text_len : ∀ {l : List TokC}, FitsAll l → (textE l).length ≤ sumT l := by
  intro l h
  induction h with
  | nil => exact Nat.le_refl _
  | @snoc l t hl ht ih =>
    rw [sumT_snoc]
    by_cases hl0 : l = []
    · subst hl0
      rw [List.nil_append, text_one]
      omega
    · rw [text_snoc t hl0, List.length_append, List.length_cons]
      omega
/-! ### Tokens that are scanned -/
theorem cardGo_fits {c : CardC} (hs : c.text.all okB = true) : ∀ (f i : Nat) (l : List TokC), FitsAll l → i ≤ c.text.length → FitsAll (cardGo c f i l).1 ∧ sumT (cardGo c f i l).1 ≤ sumT l + 2 * (c.text.length - i)
  | 0, i, l, h, _ => ⟨h, Nat.le_add_right _ _⟩
  | f + 1, i, l, h, hi => by
    have hj := skipE_ge c.text (QM l).1 i
    rw [cardGo_step]
    split
    · exact ⟨h, Nat.le_add_right _ _⟩
    · rename_i hl
      split
      · exact ⟨h, Nat.le_add_right _ _⟩
      · rename_i he
        have he' := errE_ok (Decidable.of_not_not he)
        have hn := next_len (by omega) he'
        have h0 := hn.n0
        have h1 := hn.n1
        obtain ⟨a1, a2⟩ := next_fits (t := tokAt c (Xb c.text (QM l).1 i) (QJ c.text (Xb c.text (QM l).1 i) l)) (skip_not (by omega)) he' hs rfl rfl
        obtain ⟨b1, b2⟩ := cardGo_fits hs f _ _ (h.snoc a1) h1
        refine ⟨b1, ?_⟩
        rw [sumT_snoc] at b2
        omega
theorem cardT_fits {c : CardC} (hs : c.text.all okB = true) {l : List TokC} (h : FitsAll l) : FitsAll (cardT c l).1 ∧ sumT (cardT c l).1 ≤ sumT l + 2 * c.text.length := by
  unfold cardT
  split
  · exact ⟨h, Nat.le_add_right _ _⟩
  · exact cardGo_fits hs _ 0 l h (Nat.zero_le _)
theorem scanGo_fits : ∀ (cs : List CardC) (l : List TokC), (∀ c ∈ cs, c.text.all okB = true) → FitsAll l → FitsAll (scanGo cs l).1 ∧ sumT (scanGo cs l).1 ≤ sumT l + 2 * lenSum cs
  | [], l, _, h => ⟨h, Nat.le_add_right _ _⟩
  | c :: r, l, hs, h => by
    have hc : lenSum (c :: r) = c.text.length + lenSum r := by unfold lenSum; rw [List.map_cons, List.sum_cons]
    rw [scanGo]
    split
    · exact ⟨.nil, Nat.zero_le _⟩
    · obtain ⟨a1, a2⟩ := cardT_fits (hs c (by simp)) h
      obtain ⟨b1, b2⟩ := scanGo_fits r _ (fun d hd => hs d (by simp [hd])) a1
      exact ⟨b1, by omega⟩
/-! ### The bytes of the cards that are read -/
def RdAll (x : Rd) : Prop := ∀ c ∈ x.cards, c.text.all okB = true
theorem all_trimR {s : Str} (h : s.all okB = true) : (trimR s).all okB = true := by
  obtain ⟨m, e⟩ := trimR_split s
  rw [e, List.all_append, Bool.and_eq_true] at h
  exact h.1
theorem addC_all {c : CardC} (h : c.text.all okB = true) (line col : Int) {t : Str} (ht : t.all okB = true) : (addC c line col t).text.all okB = true := by
  have e : (addC c line col t).text = c.text ++ (if Qy (c.text ++ t) = true then t else trimR t) := rfl
  rw [e, List.all_append, h]
  split
  · rw [ht]; rfl
  · rw [all_trimR ht]; rfl
theorem rdAll_add {x : Rd} (hx : RdAll x) (line col : Int) {t : Str} (ht : t.all okB = true) : RdAll (addE x line col t) := by
  rcases List.eq_nil_or_concat x.cards with e | ⟨l, c, e⟩
  · have : addE x line col t = x := by unfold addE; rw [e]; rfl
    rw [this]
    exact hx
  · rw [List.concat_eq_append] at e
    rw [XO e]
    intro d hd
    simp only [List.mem_append, List.mem_singleton] at hd
    rcases hd with hd | rfl
    · exact hx d (by rw [e]; simp [hd])
    · exact addC_all (hx c (by rw [e]; simp)) _ _ ht
theorem rdAll_take {x : Rd} (hx : RdAll x) {r : RowC} (ht : r.text.all okB = true) : RdAll (Col.takeE x r).1 := by
  unfold Col.takeE
  split
  · exact hx
  · split
    · refine rdAll_add (fun d hd => ?_) _ _ ht
      simp only [List.mem_append, List.mem_singleton] at hd
      rcases hd with hd | rfl
      · exact hx d hd
      · rfl
    · split
      · exact hx
      · split
        · exact hx
        · split
          · exact rdAll_add hx _ _ (all_drop ht 1)
          · exact rdAll_add hx _ _ ht
theorem row_all {s : Str} (n : Int) (h : badAt s = none) : (rowE s n).text.all okB = true := by
  have hs : s.all okB = true := by
    unfold badAt at h
    rw [List.findIdx?_eq_none_iff] at h
    rw [List.all_eq_true]
    intro x hx
    have := h x hx
    simpa using this
  refine all_trimL (all_take (all_drop ?_ _) _)
  unfold padE
  rw [List.all_append, hs]
  unfold sp
  rw [Bool.true_and, List.all_eq_true]
  intro x hx
  rw [(List.mem_replicate.1 hx).2]
  decide
theorem readL_all (dbg : Bool) : ∀ (ls : List Str) (n : Int) (x : Rd), RdAll x → RdAll (XZ dbg ls n x).1
  | [], _, x, h => h
  | s :: ls, n, x, h => by
    rw [XZ]
    cases hp : lineE s n dbg with
    | mk r q =>
      obtain ⟨cn, f⟩ := q
      simp only
      split
      · exact readL_all dbg ls (n + 1) x h
      · rename_i q1
        split
        · rename_i q2
          have hrow : r.text.all okB = true := by
            rw [q2] at hp
            unfold lineE at hp
            split at hp
            · cases hp
            split at hp
            · cases hp
            · rename_i hb
              simp only at hp
              have hr := row_all n hb
              split at hp
              · obtain ⟨rfl, _⟩ := Prod.mk.inj hp; exact hr
              split at hp
              · obtain ⟨rfl, _⟩ := Prod.mk.inj hp; exact hr
              split at hp
              · obtain ⟨rfl, _⟩ := Prod.mk.inj hp; exact hr
              · cases hp
          have ht := rdAll_take h hrow
          split
          · exact readL_all dbg ls (n + 1) _ ht
          · exact ht
        · exact h
theorem read_all (text : Str) (dbg : Bool) : ∀ c ∈ (readE text dbg).1, c.text.all okB = true := by
  have h := readL_all dbg (Qp (XK text)) 1 .start (fun c hc => by cases hc)
  unfold readE
  split
  · intro c hc; cases hc
  · simp only
    split
    · intro c hc; cases hc
    · split
      · intro c hc; cases hc
      · exact fun c hc => h c hc
theorem source_fits (text : Str) (dbg : Bool) : FitsAll (XP text dbg).1 ∧ sumT (XP text dbg).1 ≤ 18 * text.length := by
  have hc := read_cost text dbg
  have h0 : sumT [] = 0 := rfl
  unfold XP
  split
  · exact ⟨.nil, Nat.zero_le _⟩
  · obtain ⟨a1, a2⟩ := scanGo_fits (readE text dbg).1 [] (read_all text dbg) .nil
    exact ⟨a1, by unfold scanE; omega⟩
/-! ### How many lines Write lays out -/
theorem space_most {s : Str} {q : Bool} : ∀ {n j : Nat}, 0 < j → j ≤ n → cutAt s q j = true → j ≤ Xn s n q
  | 0, j, h0, h1, _ => by omega
  | n + 1, j, h0, h1, h2 => by
    rw [spaceE_up]
    split
    · omega
    · rename_i hc
      have hj : j ≠ n + 1 := fun e => hc (by rw [← e]; exact h2)
      exact space_most h0 (by omega) h2
theorem textL_count : ∀ (f col : Nat) (mark : Str) (q : Bool) (k : Nat) (s : Str) (c : Nat), (col = 8 ∨ col = 12) → (∀ j, 0 < j → cutAt s q j = true → 60 ≤ c + j) → 60 * (textL f col mark q k s).length ≤ 2 * s.length + c + 60
  | 0, _, _, _, _, s, c, _, _ => by simp [textL]
  | f + 1, col, mark, q, k, s, c, hc, hp => by
    obtain ⟨nn, hnn⟩ : ∃ nn, nn = 73 - col - (if q = true then 1 else 0) := ⟨_, rfl⟩
    have hn60 : 60 ≤ nn := by rw [hnn]; split <;> omega
    rw [textL, ← hnn]
    by_cases h1 : s.length ≤ nn
    · rw [if_pos h1]
      simp only [List.length_cons, List.length_nil]
      omega
    · rw [if_neg h1]
      by_cases h2 : 0 < Xn s nn q
      · rw [if_pos h2]
        have hcut := spaceE_cut s q nn h2
        have hle := (spaceE_le s nn q).1
        have hmost := fun j h0 h1 h2 => space_most (s := s) (q := q) (n := nn) (j := j) h0 h1 h2
        obtain ⟨kk, hkk⟩ : ∃ kk, kk = Xn s nn q := ⟨_, rfl⟩
        rw [← hkk] at h2 hcut hle hmost ⊢
        have hpk := hp kk h2 hcut
        unfold cutAt at hcut
        simp only [Bool.and_eq_true, decide_eq_true_eq, beq_iff_eq] at hcut
        obtain ⟨⟨c1, c2⟩, c3⟩ := hcut
        obtain ⟨m, hm, hm2⟩ := trimL_split (s.drop kk)
        have hml : s.length = kk + m + (Xr (s.drop kk)).length := by
          have := congrArg List.length hm
          rw [List.length_drop, List.length_append, List.length_replicate] at this
          omega
        have hs : s = s.take kk ++ (sp m ++ Xr (s.drop kk)) := by
          show s = s.take kk ++ (List.replicate m 32 ++ Xr (s.drop kk))
          rw [← hm, List.take_append_drop]
        obtain ⟨v, hv⟩ : ∃ v, v = Xr (s.drop kk) := ⟨_, rfl⟩
        rw [← hv] at hml hs ⊢
        have htk : (s.take kk).length = kk := by rw [List.length_take]; omega
        have hspl : (sp m).length = m := by simp [sp]
        have hp' : ∀ j, 0 < j → cutAt v false j = true → 60 ≤ (kk + m) + j := fun j h0 hj => by
          unfold cutAt at hj
          simp only [Bool.and_eq_true, decide_eq_true_eq, beq_iff_eq] at hj
          obtain ⟨⟨d1, d2⟩, d3⟩ := hj
          have hJ : cutAt s q (kk + m + j) = true := by
            have e1 : s.getD (kk + m + j) 0 = v.getD j 0 := by
              rw [hs]
              simp only [List.getD]
              rw [List.getElem?_append_right (by omega), List.getElem?_append_right (by omega), htk, hspl, show kk + m + j - kk - m = j by omega]
            have e2 : s.take (kk + m + j) = s.take kk ++ (sp m ++ v.take j) := by
              conv => lhs; rw [hs]
              rw [List.take_append, List.take_append, htk, hspl, List.take_of_length_le (by rw [htk]; omega), List.take_of_length_le (l := sp m) (by rw [hspl]; omega), show kk + m + j - kk - m = j by omega]
            unfold cutAt
            rw [e1, e2, XD, XD, oddQ_sp, c3, d3, decide_eq_true (by omega), decide_eq_true d2]
            cases q <;> rfl
          refine Nat.le_of_not_lt fun z => ?_
          have := hmost (kk + m + j) (by omega) (by omega) hJ
          omega
        have ih := textL_count f 12 [32] false (k + 1) v (kk + m) (.inr rfl) hp'
        rw [List.length_cons]
        omega
      · rw [if_neg h2]
        have ih := textL_count f 12 [45] (q != Qy (s.take nn)) (k + 1) (s.drop nn) 60 (.inr rfl) (fun j h0 _ => by omega)
        rw [List.length_drop] at ih
        rw [List.length_cons]
        omega
theorem endL_len : ∀ {ls : List Str}, (∀ l ∈ ls, l.length ≤ 72) → (endL ls).length ≤ 73 * ls.length
  | [], _ => Nat.zero_le _
  | l :: ls, h => by
    have h1 := h l (by simp)
    have h2 := endL_len (ls := ls) fun x hx => h x (by simp [hx])
    rw [endL, List.length_append, List.length_cons, List.length_cons]
    omega
theorem write_long {text : Str} {left : Bool} (hr : rightE text = true) (hl : text.length ≤ 36000) : ∃ S ls cs, WrLaw text left S ls cs := by
  obtain ⟨col, hcol⟩ : ∃ col : Nat, col = if left = true then 8 else 12 := ⟨_, rfl⟩
  have hc : col = 8 ∨ col = 12 := by rw [hcol]; split <;> simp
  have hlast := right_last hr
  have hr2 := hr
  unfold rightE at hr2
  simp only [Bool.and_eq_true, Bool.not_eq_true', decide_eq_false_iff_not] at hr2
  obtain ⟨⟨⟨⟨w1, w2⟩, w3⟩, w4⟩, w5⟩ := hr2
  have hhead : text.head? ≠ some 32 := by
    cases text with
    | nil => simp
    | cons b t => exact fun e => w3 (Option.some.inj e)
  obtain ⟨ls, hls⟩ : ∃ ls, ls = textL (text.length + 1) col [32] false 0 text := ⟨_, rfl⟩
  have hSe := textE_lines (text.length + 1) col [32] false 0 [] text
  rw [List.nil_append, ← hls] at hSe
  have hlines := textL_lines (text.length + 1) col 32 false 0 text (.inl rfl) hc w2 hlast
  have hcount := textL_count (text.length + 1) col [32] false 0 text 60 hc (fun j h0 _ => by omega)
  rw [← hls] at hlines hcount
  have hSl := endL_len (ls := ls) fun l h => (hlines l h).2.1
  obtain ⟨y, J, m, t1, t2, t3, t4, t5⟩ := write_read (text.length + 1) col [32] false 0 text .start 1 (Nat.lt_succ_self _) hc (.inl ⟨rfl, rfl, rfl⟩) w2 hlast (fun _ => hhead) (by rw [w5]; rfl)
  rw [← hls] at t1
  refine ⟨endL ls, ls, y.cards, ?_, by omega, endL_split fun l h => (hlines l h).2.2, fun l h => ⟨(hlines l h).1, (hlines l h).2.1⟩, ?_, ⟨m, ?_⟩, ?_⟩
  · unfold writeE
    simp only [List.all_cons, List.all_nil, Bool.and_true, hr, if_true, writeGo, ← hcol, hSe]
    rw [if_neg (by omega)]
  · have := endL_trim (ls := ls) fun l h => (hlines l h).2.2
    rw [t1] at this
    exact readE_ok (by omega) this t2
  · rw [t5]
    simp only [if_true, Rd.start, List.map_nil, List.nil_append, List.cons_append, List.cons.injEq, and_true]
    rw [hcol]
    cases left <;> rfl
  · have e : jT y.cards = J := by
      rw [t3]
      simp [Rd.start, jT]
    rw [e]
    exact t4 false
/-! ### The first token -/
theorem atGo_ge {i : Int} : ∀ (ms : List MarkC) (p : Int × Int), (∀ m ∈ ms, i < m.frm) → atGo i ms p = p
  | [], p, _ => rfl
  | m :: ms, p, h => by
    rw [atGo, if_neg (by have := h m (by simp); omega), atGo_ge ms p fun x hx => h x (by simp [hx])]
theorem validC_above (c : CardC) : ∀ (ms : List MarkC) (b : Int), validC.go c b ms = true → ∀ m ∈ ms, b < m.frm
  | [], _, _, m, hm => by cases hm
  | x :: ms, b, h, m, hm => by
    simp only [validC.go, Bool.and_eq_true, decide_eq_true_eq] at h
    rcases List.mem_cons.1 hm with rfl | hm
    · exact h.1.1
    · have := validC_above c ms _ h.2 m hm
      omega
theorem at_zero {c : CardC} (hv : validC c = true) {m : MarkC} {ms : List MarkC} (h : c.marks = m :: ms) : (atE c 0).2.1 = m.col := by
  have h2 := hv
  unfold validC at h2
  rw [h] at h2
  simp only [validC.go, Bool.and_eq_true, decide_eq_true_eq] at h2
  have h3 := validC_above c ms _ h2.2.2
  have hf : m.frm = 0 := h2.1
  unfold atE
  rw [if_pos ⟨hv, by omega, by omega⟩, h]
  simp only [atGo]
  rw [if_pos (by omega), atGo_ge ms _ (fun x hx => by have := h3 x hx; omega)]
  simp only
  omega
theorem cardGo_pre (c : CardC) : ∀ (f i : Nat) (l : List TokC), ∃ r, (cardGo c f i l).1 = l ++ r
  | 0, i, l => ⟨[], (List.append_nil l).symm⟩
  | f + 1, i, l => by
    rw [cardGo_step]
    split
    · exact ⟨[], (List.append_nil l).symm⟩
    · split
      · exact ⟨[], (List.append_nil l).symm⟩
      · obtain ⟨r, hr⟩ := cardGo_pre c f (Xb c.text (QM l).1 i + (QJ c.text (Xb c.text (QM l).1 i) l).n) (l ++ [tokAt c (Xb c.text (QM l).1 i) (QJ c.text (Xb c.text (QM l).1 i) l)])
        exact ⟨_, by rw [hr, List.append_assoc]⟩
theorem scanGo_pre : ∀ (cs : List CardC) (l : List TokC), (scanGo cs l).2 = okF → ∃ r, (scanGo cs l).1 = l ++ r
  | [], l, _ => ⟨[], (List.append_nil l).symm⟩
  | c :: cs, l, h => by
    rw [scanGo] at h ⊢
    split at h
    · rename_i q; exact absurd h q
    · rename_i q
      rw [if_neg q]
      obtain ⟨r, hr⟩ := scanGo_pre cs _ h
      have : ∃ r, (cardT c l).1 = l ++ r := by
        unfold cardT
        split
        · exact ⟨[], (List.append_nil l).symm⟩
        · exact cardGo_pre c _ _ _
      obtain ⟨r', hr'⟩ := this
      exact ⟨_, by rw [hr, hr', List.append_assoc]⟩
theorem valid_pos {c : CardC} (hv : validC c = true) : 0 < c.text.length := by
  unfold validC at hv
  split at hv
  · cases hv
  · rename_i m ms e
    rw [e] at hv
    simp only [validC.go, Bool.and_eq_true, decide_eq_true_eq] at hv
    omega
theorem sq_head (b : UInt8) (s : Str) : (sqE (b :: s)).head? = some b := by
  unfold sqE
  rw [sqGo, if_neg (fun q => by have := q.2.2; cases this)]
  rfl
theorem first_left {S text : Str} {cs : List CardC} {left : Bool} {n : Nat} (hr : readE S false = (cs, okF)) (hq : sqE (jT cs) = sqE text) (hleft : cs.map (·.left) = left :: List.replicate n false) (h0 : 0 < text.length) (h1 : qA text 0 ≠ 32) (h2 : sepB (qA text 0) = false) (hf : (XP S false).2 = okF) :
    ∃ t r, (XP S false).1 = t :: r ∧ t.left = left := by
  have hv := read_valid (text := S) (dbg := false) (by rw [hr])
  have he := read_ev (text := S) (dbg := false) (by rw [hr])
  rw [hr] at hv he
  have e : XP S false = scanGo cs [] := by
    unfold XP
    rw [hr, if_neg (by simp)]
    rfl
  rw [e] at hf ⊢
  cases cs with
  | nil => cases hleft
  | cons c r =>
    have hvc := hv c (by simp)
    obtain ⟨m, ms, hm1, hm2⟩ := (he c (by simp)).2
    have hcl : c.left = left := by simp only [List.map_cons, List.cons.injEq] at hleft; exact hleft.1
    have hpos := valid_pos hvc
    have hb : qA c.text 0 = qA text 0 := by
      obtain ⟨ct, hct⟩ : ∃ ct, ct = c.text := ⟨_, rfl⟩
      have ej : jT (c :: r) = ct ++ r.flatMap fun d => 32 :: d.text := by rw [hct]; rfl
      rw [← hct] at hpos ⊢
      cases ct with
      | nil => simp at hpos
      | cons b u =>
        cases text with
        | nil => simp at h0
        | cons b' u' =>
          rw [ej, List.cons_append] at hq
          have := congrArg List.head? hq
          rw [sq_head, sq_head] at this
          rw [show (0 : Int) = ((0 : Nat) : Int) from rfl, Qn (by simp), Qn (by simp)]
          exact Option.some.inj this
    have hsk : ¬ skp c.text (QM []).1 0 := by
      rintro (q | ⟨_, q, _⟩)
      · rw [show ((0 : Nat) : Int) = 0 from rfl, hb] at q
        exact h1 q
      · rw [show ((0 : Nat) : Int) = 0 from rfl, hb, h2] at q
        cases q
    have hs0 : Xb c.text (QM []).1 0 = 0 := by rw [Zd, if_neg (by omega), if_neg hsk]
    have h00 : (atE c 0).2.2 = 0 := by
      unfold atE
      rw [if_pos ⟨hvc, by omega, by omega⟩]
    have hT : cardT c [] = cardGo c (c.text.length + 1) 0 [] := by
      unfold cardT
      rw [if_neg (by rw [h00]; simp)]
    rw [scanGo] at hf ⊢
    split at hf
    · rename_i q; exact absurd hf q
    · rename_i q
      have q' : (cardT c []).2 = okF := Decidable.of_not_not q
      rw [if_neg q]
      obtain ⟨r2, hr2⟩ := scanGo_pre r _ hf
      rw [hr2, hT, cardGo_step, hs0]
      rw [hT, cardGo_step, hs0] at q'
      rw [if_neg (by omega)] at q' ⊢
      split at q'
      · rename_i z
        exfalso
        have := congrArg FaultC.e q'
        exact z this
      · rename_i z
        rw [if_neg z]
        obtain ⟨r3, hr3⟩ := cardGo_pre c c.text.length (0 + (QJ c.text 0 []).n) ([] ++ [tokAt c 0 (QJ c.text 0 [])])
        refine ⟨tokAt c 0 (QJ c.text 0 []), r3 ++ r2, by rw [hr3]; simp, ?_⟩
        show decide ((atE c ((0 : Nat) : Int)).2.1 < 12) = left
        rw [show ((0 : Nat) : Int) = 0 from rfl, at_zero hvc hm1, ← hm2, hcl]
/-- What is scanned again of tokens that are formatted and laid out. -/
theorem back_law {l : List TokC} {S : Str} {ls : List Str} {cs : List CardC} {left : Bool} (hb : TextBack l) (W : WrLaw (textE l) left S ls cs) :
    (XP S false).2 = okF ∧ (XP S false).1.map kt = l.map kt ∧ ∃ t r, (XP S false).1 = t :: r ∧ t.left = left := by
  obtain ⟨n, hleft⟩ := W.left
  have hcs : cs ≠ [] := fun e => by rw [e] at hleft; cases hleft
  obtain ⟨p1, p2⟩ := source_text W.read hcs W.sq
  obtain ⟨m, hm1, hm2⟩ := hb.abs
  rw [hm1] at p1 p2
  have hok : (XP S false).2 = okF := by
    have hv := read_valid (text := S) (dbg := false) (by rw [W.read])
    rw [W.read] at hv
    have e : XP S false = scanGo cs [] := by
      unfold XP
      rw [W.read, if_neg (by simp)]
      rfl
    have key : ∀ (cs : List CardC) (l : List TokC), (∀ c ∈ cs, validC c = true) → (scanGo cs l).2 = okF ∨ (scanGo cs l).2.e ≠ 0 := by
      intro cs
      induction cs with
      | nil => intro l _; exact .inl rfl
      | cons c r ih =>
        intro l hv
        rw [scanGo]
        split
        · rename_i q
          exact .inr ((cardT_abs (hv c (by simp)) (l := l) (m := l) rfl).2.2.resolve_left q)
        · exact ih _ fun d hd => hv d (by simp [hd])
    rw [e] at p1 ⊢
    exact (key cs [] hv).resolve_right (fun q => q p1)
  exact ⟨hok, by rw [p2 rfl, hm2], first_left W.read W.sq hleft hb.pos hb.head hb.sep hok⟩
end Go.Proofs.YtmadddihphkmoaaGreatDoor

