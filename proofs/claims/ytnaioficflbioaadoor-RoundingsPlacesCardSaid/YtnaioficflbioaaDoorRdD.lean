/-
  Contract: neighbors of the statements.
  Conditions: none.
-/
import Derived.Test.YtnaioficflbioaaDoorRdC
set_option linter.unusedSimpArgs false
set_option linter.unnecessarySimpa false
set_option linter.unusedVariables false
namespace Go.Proofs.YtnaioficflbioaaDoor
open Go.AM
open Go.Proofs
open Go.Dec
open Go.Lib (decDigits)
set_option maxRecDepth 100000

def lostN (d : D) (s : Int) : Nat := natOf d.dig % 10 ^ (d.scale - s).toNat
def wholeN (d : D) (s : Int) : Nat := natOf d.dig / 10 ^ (d.scale - s).toNat
/-- The number of m steps of a grid. -/
def stepsD (neg : Bool) (m : Nat) (s : Int) : D := canon neg (m * 10 ^ (-s).toNat) s.toNat
def lostB (d : D) (s : Int) : Bool := decide (s < d.scale) && !decide (lostN d s = 0)
def nearE (d : D) (s : Int) : D := if lostB d s = true then stepsD d.neg (wholeN d s) s else d
def farE (d : D) (s : Int) : D := if lostB d s = true then stepsD d.neg (wholeN d s + 1) s else d
def lostS (d : D) (s : Int) : List UInt8 := if lostB d s = true then fixS (lostN d s) (d.scale - s).toNat else []

/-- The digits ahead of a place, once more by one step. -/
theorem inc_at (x : List UInt8) (hx : x.all dg = true) (i : Nat) (hi : i < x.length) (h9 : ∀ j, i < j → j < x.length → x.getD j 0 = 57) (hlt : (x.getD i 0).toNat < 57) :
    natOf (x.take i ++ (UInt8.ofNat ((x.getD i 0).toNat + 1)) :: List.replicate (x.length - 1 - i) 48) = natOf x + 1 ∧ (x.take i ++ (UInt8.ofNat ((x.getD i 0).toNat + 1)) :: List.replicate (x.length - 1 - i) 48).all dg = true := by
  have e : x = x.take i ++ x.getD i 0 :: List.replicate (x.length - 1 - i) 57 := by
    apply List.ext_getElem
    · simp; omega
    · intro j h1 h2
      rcases Nat.lt_trichotomy j i with c | c | c
      · rw [List.getElem_append_left (by simp; omega), List.getElem_take]
      · subst c
        rw [List.getElem_append_right (by simp; omega)]
        simp [show j - min j x.length = 0 by omega, List.getD, h1]
      · rw [List.getElem_append_right (by simp; omega)]
        have := h9 j c h1
        simp only [List.getD, List.getElem?_eq_getElem h1, Option.getD_some] at this
        rw [this, List.getElem_cons, dif_neg (by simp; omega)]
        simp
  have hd := dg_at hx i hi
  have nines : ∀ k, natOf (List.replicate k 57) + 1 = 10 ^ k := by
    intro k
    induction k with
    | zero => rfl
    | succ k ih =>
      rw [List.replicate_succ, natOf_cons, List.length_replicate, Nat.pow_succ]
      have : dv 57 = 9 := by decide
      rw [this]
      omega
  have h1 : (UInt8.ofNat ((x.getD i 0).toNat + 1)).toNat = (x.getD i 0).toNat + 1 := by rw [UInt8.toNat_ofNat']; omega
  constructor
  · conv => rhs; rw [e]
    rw [natOf_append, natOf_append, natOf_cons, natOf_cons, natOf_zeros]
    have hn := nines (x.length - 1 - i)
    simp only [List.length_cons, List.length_replicate]
    have hv : dv (UInt8.ofNat ((x.getD i 0).toNat + 1)) = dv (x.getD i 0) + 1 := by simp only [dv, h1]; omega
    rw [hv, Nat.add_mul, Nat.one_mul]
    omega
  · rw [List.all_eq_true] at hx ⊢
    intro b hb
    rcases List.mem_append.1 hb with hb | hb
    · exact hx b (List.mem_of_mem_take hb)
    · rcases List.mem_cons.1 hb with hb | hb
      · rw [hb, dg_iff, h1]; omega
      · rw [List.eq_of_mem_replicate hb]; decide

theorem one48 (b : UInt8) : ([b].all fun x => x == 48) = decide ((b.toNat : Int) = 48) := by
  have e : (b.toNat = 48) ↔ b = 48 := ⟨fun e => UInt8.toNat_inj.1 e, fun e => by rw [e]; rfl⟩
  rw [Bool.eq_iff_iff]
  simp only [List.all_cons, List.all_nil, Bool.and_true, beq_iff_eq, decide_eq_true_eq]
  rw [← e]
  omega
/-- The digits while one step is added: those behind place i are nines, and have become zeros. -/
def incT (x : List UInt8) (i : Nat) : List UInt8 := x.take (i + 1) ++ List.replicate (x.length - 1 - i) 48
theorem incT_len (x : List UInt8) (i : Nat) (hi : i < x.length) : (incT x i).length = x.length := by simp [incT]; omega
theorem incT_get (x : List UInt8) (i : Nat) (hi : i < x.length) : (incT x i).getD i 0 = x.getD i 0 := by
  have h1 : i < (x.take (i + 1)).length := by simp; omega
  rw [incT, List.getD, List.getElem?_append_left h1, List.getElem?_take_of_lt (by omega)]
  rfl
theorem incT_set (x : List UInt8) (i : Nat) (hi : i < x.length) (c : UInt8) : (incT x i).set i c = x.take i ++ c :: List.replicate (x.length - 1 - i) 48 := by
  rw [incT, take_snoc x i hi, List.append_assoc, List.set_append_right _ _ (by simp; omega)]
  have e : i - (x.take i).length = 0 := by simp; omega
  rw [e]
  rfl
theorem incT_step (x : List UInt8) (i : Nat) (hi : i + 1 < x.length) : (incT x (i + 1)).set (i + 1) 48 = incT x i := by
  rw [incT_set x (i + 1) hi, incT]
  congr 1
  rw [← List.replicate_succ]
  congr 1
  omega
theorem incT_start (x : List UInt8) (hx : x ≠ []) : incT x (x.length - 1) = x := by
  have := List.length_pos_iff.2 hx
  rw [incT, List.take_of_length_le (by omega), show x.length - 1 - (x.length - 1) = 0 by omega]
  simp

theorem c_neighbors (w₀ : World) (h : AHeap) (d : D) (s : Int) (sd : Small d) (dd : d.dig.all dg = true) (s0 : -62 ≤ s) (s1 : s ≤ 62) :
    ACall Tryd.prog w₀ 12 [decA d, .int .i64 s] h (fun v h' => v = .tuple [decA (nearE d s), decA (farE d s), .str (lostS d s), .bool (lostB d s)] ∧ h' = h) := by
  have ha1 := sd.l
  have ha2 := sd.s0
  have ha3 := sd.s1
  refine acall_intro (n := 115) (rs := [.cell 4 28, .cell 5 28, .tmp 6, .tmp 7]) Tryd.func12 rfl rfl rfl rfl (Nat.le_of_ble_eq_true rfl) ?_
  simp only [initSlots]
  -- region 0  law.go:93
  refine awp_rseq [1, 2, 4, 5] (by rfl) fun K hK => ?_
  refine aOps_box (by rfl) (by rfl) (by rfl) fun k0q0 hk0q0 => ?_
  try have hf_0q0 : h k0q0 = none := by first | assumption | (simp only [AHeap.set_none] at hk0q0; simp only [hk0q0])
  skip
  refine aOps_alloc ze28 (cs := [.bool false, .str [], .int .i64 0]) (by rfl) fun k0q1 hk0q1 => ?_
  have ne_0q1_0q0 : k0q1 ≠ k0q0 := by simp only [AHeap.set_none] at hk0q1; simp only [hk0q1, ne_eq, not_false_eq_true]
  try have hf_0q1 : h k0q1 = none := by first | assumption | (simp only [AHeap.set_none] at hk0q1; simp only [hk0q1])
  refine aOps_alloc ze28 (cs := [.bool false, .str [], .int .i64 0]) (by rfl) fun k0q2 hk0q2 => ?_
  have ne_0q2_0q0 : k0q2 ≠ k0q0 := by simp only [AHeap.set_none] at hk0q2; simp only [hk0q2, ne_eq, not_false_eq_true]
  have ne_0q2_0q1 : k0q2 ≠ k0q1 := by simp only [AHeap.set_none] at hk0q2; simp only [hk0q2, ne_eq, not_false_eq_true]
  try have hf_0q2 : h k0q2 = none := by first | assumption | (simp only [AHeap.set_none] at hk0q2; simp only [hk0q2])
  simp (decide := true) only [aOps_nil, ev, absV, absS, putD, Slots.put, Slots.get, Slots.keep, if_true, if_false, true_and, ↓ap_assign, pop_assign, AVal.cells, Nat.zero_add, decA]
  repeat (with_reducible refine And.intro ?_ ?_; · first | trivial | omega | (intro hg; simp only [Bool.and_eq_true, Bool.or_eq_true, Bool.not_eq_true', Bool.and_eq_false_iff, Bool.or_eq_false_iff, Bool.not_eq_false', decide_eq_true_eq, decide_eq_false_iff_not, eqNil] at hg; omega) )
  apply hK; clear hK K
  -- region 1  law.go:94
  refine awp_rseq [1, 2, 4, 5, 8] (by rfl) fun K hK => ?_
  simp (decide := true) only [aOps_nil, ev, putD, Slots.put, Slots.get, Slots.keep, if_true, if_false, true_and, ↓ap_fieldAddr, pop_fieldAddr, fa28_1, ↓ap_loadL, apL_mk, pLoad_one ag9, ↓ap_assign, pop_assign, rd_ne', ne_eq, not_false_eq_true, ne_0q1_0q0.symm, ne_0q2_0q0.symm, rd_any, List.getD_cons_zero, List.getD_cons_succ, Nat.zero_add, lv_str]
  repeat (with_reducible refine And.intro ?_ ?_; · first | trivial | omega | (intro hg; simp only [Bool.and_eq_true, Bool.or_eq_true, Bool.not_eq_true', Bool.and_eq_false_iff, Bool.or_eq_false_iff, Bool.not_eq_false', decide_eq_true_eq, decide_eq_false_iff_not, eqNil] at hg; omega) )
  apply hK; clear hK K
  refine awp_seq ?_
  refine awp_block ?_
  refine awp_loopG [1, 2, 4, 5, 8] (fun t : Nat => [(1, .int .i64 s), (2, .ptr (.own k0q0) 0), (4, .ptr (.own k0q1) 0), (5, .ptr (.own k0q2) 0), (8, .str (List.replicate t 48 ++ d.dig))]) (fun t : Nat => ((h.set k0q0 ⟨[.bool d.neg, .str d.dig, .int .i64 d.scale], 0⟩).set k0q1 ⟨[.bool false, .str [], .int .i64 0], 0⟩).set k0q2 ⟨[.bool false, .str [], .int .i64 0], 0⟩) (fun t : Nat => t = 0 ∨ (t : Int) + d.dig.length ≤ max d.scale (d.scale - s) + 1) (fun t : Nat => 1000 - t) 0 (by rfl) (Sub.refl _) (.inl rfl) ?_
  intro t ht
  refine awp_seq ?_
  -- region 2  law.go:95
  refine awp_rseq [1, 2, 4, 5, 8, 28] (by rfl) fun K hK => ?_
  simp (decide := true) only [aOps_nil, ev, absV, absS, putD, Slots.put, Slots.get, Slots.keep, if_true, if_false, true_and, ↓ap_move, pop_move, ↓ap_len, pop_len, pLen_str Tryd.underlying9, ↓ap_fieldAddr, pop_fieldAddr, fa28_2, ↓ap_loadL, apL_mk, pLoad_one ag3, ↓ap_binOp, pop_binOp, pBinX_int, pI_sub, ↓ap_max, pop_max, pMax_int, evs, List.map_cons, List.map_nil, pI_add, pI_lss, rd_ne', ne_eq, not_false_eq_true, ne_0q1_0q0.symm, ne_0q2_0q0.symm, rd_any, List.getD_cons_zero, List.getD_cons_succ, Nat.zero_add, lv_int]
  try simp (disch := omega) only [wrap_i64]
  repeat (with_reducible refine And.intro ?_ ?_; · first | trivial | omega | (intro hg; simp only [Bool.and_eq_true, Bool.or_eq_true, Bool.not_eq_true', Bool.and_eq_false_iff, Bool.or_eq_false_iff, Bool.not_eq_false', decide_eq_true_eq, decide_eq_false_iff_not, eqNil] at hg; omega) )
  apply hK; clear hK K
  refine awp_cond (b := _) rfl (fun hb1 => ?_) (fun hb1 => ?_)
  · try simp only [decide_eq_true_eq] at hb1
    refine awp_skip ?_
    change Awp _ _ _ _ _ _ _
    refine awp_block ?_
    -- region 3  law.go:96
    refine awp_r [1, 2, 4, 5, 8] (by rfl) ?_
    simp (decide := true) only [aOps_nil, ev, absV, absS, putD, Slots.put, Slots.get, Slots.keep, if_true, if_false, true_and, ↓ap_move, pop_move, ↓ap_binOp, pop_binOp, pBinX_str, pS_add, ↓ap_assign, pop_assign, decA]
    refine And.intro (by simp; omega) ?_
    try simp only [thenA_normal, inBlockA_normal]
    simp only [List.length_append, List.length_replicate] at hb1
    refine ⟨t + 1, rfl, Sub.refl _, .inr (by omega), by omega⟩
  · try simp only [decide_eq_false_iff_not] at hb1
    obtain ⟨x, hx⟩ : ∃ x, x = List.replicate t 48 ++ d.dig := ⟨_, rfl⟩
    have hxa : x.all dg = true := by rw [hx, all_append, all_zeros, dd]; rfl
    have hxn : natOf x = natOf d.dig := by rw [hx, natOf_append, natOf_zeros]; omega
    rw [← hx] at hb1
    have hxl : x.length ≤ 200 := by rw [hx]; simp; omega
    simp only [← hx]
    clear hx ht
    refine awp_exit ?_
    change Awp _ _ _ _ _ _ _
    -- region 4  law.go:98
    refine awp_rseq [1, 2, 4, 5, 8, 9] (by rfl) fun K hK => ?_
    simp (decide := true) only [aOps_nil, ev, putD, Slots.put, Slots.get, Slots.keep, if_true, if_false, true_and, ↓ap_fieldAddr, pop_fieldAddr, fa28_2, ↓ap_loadL, apL_mk, pLoad_one ag3, ↓ap_move, pop_move, ↓ap_binOp, pop_binOp, pBinX_int, pI_sub, ↓ap_assign, pop_assign, rd_ne', ne_eq, not_false_eq_true, ne_0q1_0q0.symm, ne_0q2_0q0.symm, rd_any, List.getD_cons_zero, List.getD_cons_succ, Nat.zero_add, lv_int]
    try simp (disch := omega) only [wrap_i64]
    repeat (with_reducible refine And.intro ?_ ?_; · first | trivial | omega | (intro hg; simp only [Bool.and_eq_true, Bool.or_eq_true, Bool.not_eq_true', Bool.and_eq_false_iff, Bool.or_eq_false_iff, Bool.not_eq_false', decide_eq_true_eq, decide_eq_false_iff_not, eqNil] at hg; omega) )
    apply hK; clear hK K
    refine awp_seq ?_
    -- region 5  law.go:99
    refine awp_rseq [1, 2, 4, 5, 8, 9, 36] (by rfl) fun K hK => ?_
    simp (decide := true) only [aOps_nil, ev, absV, absS, putD, Slots.put, Slots.get, Slots.keep, if_true, if_false, true_and, ↓ap_move, pop_move, ↓ap_binOp, pop_binOp, pBinX_int, pI_leq]
    repeat (with_reducible refine And.intro ?_ ?_; · first | trivial | omega | (intro hg; simp only [Bool.and_eq_true, Bool.or_eq_true, Bool.not_eq_true', Bool.and_eq_false_iff, Bool.or_eq_false_iff, Bool.not_eq_false', decide_eq_true_eq, decide_eq_false_iff_not, eqNil] at hg; omega) )
    apply hK; clear hK K
    refine awp_cond (b := _) rfl (fun hb2 => ?_) (fun hb2 => ?_)
    · try simp only [decide_eq_true_eq] at hb2
      -- region 6  law.go:100
      refine awp_dseq_G 2 [1] [k0q0] [4, 5, 6, 7] mixed (by kernel_rfl) (by rfl) fun K hK => ?_
      simp only [List.take_succ_cons, List.take_zero, List.drop_succ_cons, List.drop_zero]
      simp (decide := true) only [fOps_nil, ev, putD, Slots.put, Slots.get, if_true, if_false, true_and, ↓fp_load, pop_load, pLoad_agg ag28 sz28, rd_ne', ne_eq, not_false_eq_true, ne_0q1_0q0.symm, ne_0q2_0q0.symm, rd_any, cellsAt, List.getD_cons_zero, List.getD_cons_succ, Nat.zero_add, Nat.reduceAdd, lv_bool, lv_int, lv_str, allLive, Bool.and_true]
      repeat (with_reducible refine And.intro ?_ ?_; · first | trivial | omega | (intro hg; simp only [Bool.and_eq_true, Bool.or_eq_true, Bool.not_eq_true', Bool.and_eq_false_iff, Bool.or_eq_false_iff, Bool.not_eq_false', decide_eq_true_eq, decide_eq_false_iff_not, eqNil] at hg; omega) )
      try simp only [vOps_nil, fOps_nil]
      refine And.intro (by simp (decide := true) [lateOK, ev, Slots.get]) ?_
      refine kOps_step ?_
      refine aOps_store (by rfl) (by rfl) (by repeat (first | exact AHeap.set_same _ _ _ | assumption | refine (AHeap.set_ne _ _ (by first | assumption | exact Ne.symm (by assumption))).trans ?_)) sz28 (by rfl) (by rfl) (by first | exact Nat.le_refl _ | decide | (simp; done) | (simp; omega)) (Nat.zero_le _) (by rfl) ?_
      simp only [AVal.cells]
      rw [aOps_nil]
      refine And.intro (by intro k hk; simp only [List.mem_cons, List.not_mem_nil, or_false] at hk; first | rfl | (first | subst hk | (rcases hk with rfl | rfl | rfl | rfl | rfl)); all_goals simp [AHeap.set, ne_0q1_0q0.symm, ne_0q2_0q0.symm]) ?_
      refine kOps_step ?_
      refine aOps_store (by rfl) (by rfl) (by repeat (first | exact AHeap.set_same _ _ _ | assumption | refine (AHeap.set_ne _ _ (by first | assumption | exact Ne.symm (by assumption))).trans ?_)) sz28 (by rfl) (by rfl) (by first | exact Nat.le_refl _ | decide | (simp; done) | (simp; omega)) (Nat.zero_le _) (by rfl) ?_
      simp only [AVal.cells]
      rw [aOps_nil]
      refine And.intro (by intro k hk; simp only [List.mem_cons, List.not_mem_nil, or_false] at hk; first | rfl | (first | subst hk | (rcases hk with rfl | rfl | rfl | rfl | rfl)); all_goals simp [AHeap.set, ne_0q1_0q0.symm, ne_0q2_0q0.symm]) ?_
      simp (decide := true) only [kOps_nil, ev, absV, absS, putD, Slots.put, Slots.get, Slots.keep, if_true, if_false, true_and, ↓kp_assign, pop_assign, setAt, List.set_cons_zero, List.set_cons_succ, Nat.zero_add, Nat.reduceAdd]
      repeat (with_reducible refine And.intro ?_ ?_; · first | trivial | omega | (intro hg; simp only [Bool.and_eq_true, Bool.or_eq_true, Bool.not_eq_true', Bool.and_eq_false_iff, Bool.or_eq_false_iff, Bool.not_eq_false', decide_eq_true_eq, decide_eq_false_iff_not, eqNil] at hg; omega) )
      apply hK; clear hK K
      refine awp_ret ?_
      try simp only [thenA_ret]
      refine retA_ret h (by repeat (first | exact Sub.refl _ | refine Sub.trans_set ?_ (by assumption))) (?_) ?_
      · simp (decide := true) only [resPre, resV_tmp, resV_cell, Slots.get, if_true, if_false, and_true, resV_tmp, resV_cell, pLoad_agg ag28 sz28, rd_set, cellsAt, List.getD_cons_zero, List.getD_cons_succ, Nat.zero_add, Nat.reduceAdd, lv_bool, lv_int, lv_str, allLive, Bool.and_true, rd_ne', ne_eq, not_false_eq_true, ne_0q2_0q1.symm, cellsAt, List.getD_cons_zero, List.getD_cons_succ, Nat.zero_add, Nat.reduceAdd, lv_bool, lv_int, lv_str, allLive, Bool.and_true]
      
      simp (decide := true) only [Slots.get, if_true, if_false, and_true, resOfG_four, resV_tmp, resV_cell, pLoad_agg ag28 sz28, rd_set, cellsAt, List.getD_cons_zero, List.getD_cons_succ, Nat.zero_add, Nat.reduceAdd, lv_bool, lv_int, lv_str, allLive, Bool.and_true, rd_ne', ne_eq, not_false_eq_true, ne_0q2_0q1.symm, cellsAt, List.getD_cons_zero, List.getD_cons_succ, Nat.zero_add, Nat.reduceAdd, lv_bool, lv_int, lv_str, allLive, Bool.and_true, decA]
      have e : lostB d s = false := by rw [lostB, decide_eq_false (by omega)]; rfl
      rw [nearE, farE, lostS, e]; rfl
    · try simp only [decide_eq_false_iff_not] at hb2
      have hm : (d.scale - s).toNat ≤ x.length := by omega
      obtain ⟨sp1, sp2⟩ := natOf_split x hxa _ hm
      rw [hxn] at sp1 sp2
      have hidx : ((x.length : Int) - (d.scale - s)).toNat = x.length - (d.scale - s).toNat := by omega
      have hlost : List.take (x.length - (x.length - (d.scale - s).toNat)) (List.drop (x.length - (d.scale - s).toNat) x) = List.drop (x.length - (d.scale - s).toNat) x := List.take_of_length_le (by simp)
      obtain ⟨lost, hL⟩ : ∃ y, y = List.drop (x.length - (d.scale - s).toNat) x := ⟨_, rfl⟩
      obtain ⟨W, hW⟩ : ∃ y, y = List.take (x.length - (d.scale - s).toNat) x := ⟨_, rfl⟩
      rw [← hL] at sp2 hlost
      rw [← hW] at sp1
      have hla : lost.all dg = true := by
        rw [List.all_eq_true] at hxa ⊢
        exact fun b hb => hxa b (List.mem_of_mem_drop (hL ▸ hb))
      have hWa : W.all dg = true := by
        rw [List.all_eq_true] at hxa ⊢
        exact fun b hb => hxa b (List.mem_of_mem_take (hW ▸ hb))
      have hll : lost.length = (d.scale - s).toNat := by rw [hL]; simp; omega
      have hWl : W.length ≤ 200 := by rw [hW]; simp; omega
      have hlB : lostB d s = !decide (natOf lost = 0) := by rw [lostB, decide_eq_true (by omega), lostN, ← sp2]; rfl
      refine awp_skip ?_
      change Awp _ _ _ _ _ _ _
      -- region 7  law.go:102
      refine awp_rseq [1, 2, 4, 5, 6, 8, 9] (by rfl) fun K hK => ?_
      simp (decide := true) only [ev, putD, Slots.put, Slots.get, if_true, if_false, true_and, ↓ap_move, pop_move, ↓ap_len, pop_len, pLen_str Tryd.underlying9, ↓ap_binOp, pop_binOp, pBinX_int, pI_sub]
      try simp (disch := omega) only [wrap_i64]
      try simp (decide := true) only [aOps_nil, ev, putD, Slots.put, Slots.get, Slots.keep, if_true, if_false, true_and, ↓ap_slice, pop_slice, evO, pSliceS_i0 Tryd.underlying9, pSliceS, bndA_none, bndA_int, ↓ap_assign, pop_assign, hidx, Int.toNat_natCast, ← hL, hlost]
      repeat (with_reducible refine And.intro ?_ ?_; · first | trivial | omega | (intro hg; simp only [Bool.and_eq_true, Bool.or_eq_true, Bool.not_eq_true', Bool.and_eq_false_iff, Bool.or_eq_false_iff, Bool.not_eq_false', decide_eq_true_eq, decide_eq_false_iff_not, eqNil] at hg; omega) )
      apply hK; clear hK K
      -- region 8  law.go:103
      refine awp_rseq [1, 2, 4, 5, 6, 8, 9, 10] (by rfl) fun K hK => ?_
      simp (decide := true) only [aOps_nil, ev, absV, absS, putD, Slots.put, Slots.keep, if_true, if_false, true_and, ↓ap_assign, pop_assign]
      repeat (with_reducible refine And.intro ?_ ?_; · first | trivial | omega | (intro hg; simp only [Bool.and_eq_true, Bool.or_eq_true, Bool.not_eq_true', Bool.and_eq_false_iff, Bool.or_eq_false_iff, Bool.not_eq_false', decide_eq_true_eq, decide_eq_false_iff_not, eqNil] at hg; omega) )
      apply hK; clear hK K
      refine awp_seq ?_
      -- region 9  law.go:104
      refine awp_rseq [1, 2, 4, 5, 6, 8, 9, 10, 11] (by rfl) fun K hK => ?_
      simp (decide := true) only [aOps_nil, ev, absV, absS, putD, Slots.put, Slots.keep, if_true, if_false, true_and, ↓ap_assign, pop_assign]
      repeat (with_reducible refine And.intro ?_ ?_; · first | trivial | omega | (intro hg; simp only [Bool.and_eq_true, Bool.or_eq_true, Bool.not_eq_true', Bool.and_eq_false_iff, Bool.or_eq_false_iff, Bool.not_eq_false', decide_eq_true_eq, decide_eq_false_iff_not, eqNil] at hg; omega) )
      apply hK; clear hK K
      refine awp_block ?_
      refine awp_loopG [1, 2, 4, 5, 6, 8, 9, 10, 11] (fun i : Nat => [(1, .int .i64 s), (2, .ptr (.own k0q0) 0), (4, .ptr (.own k0q1) 0), (5, .ptr (.own k0q2) 0), (6, .str lost), (8, .str x), (9, .int .i64 (d.scale - s)), (10, .bool ((lost.take i).all (· == 48))), (11, .int .i64 i)]) (fun i : Nat => ((h.set k0q0 ⟨[.bool d.neg, .str d.dig, .int .i64 d.scale], 0⟩).set k0q1 ⟨[.bool false, .str [], .int .i64 0], 0⟩).set k0q2 ⟨[.bool false, .str [], .int .i64 0], 0⟩) (fun i : Nat => i ≤ lost.length) (fun i : Nat => lost.length - i) 0 (by rfl) (Sub.refl _) (Nat.zero_le _) ?_
      intro i hi
      refine awp_seq ?_
      -- region 10  law.go:104
      refine awp_rseq [1, 2, 4, 5, 6, 8, 9, 10, 11, 48] (by rfl) fun K hK => ?_
      simp (decide := true) only [aOps_nil, ev, putD, Slots.put, Slots.get, Slots.keep, if_true, if_false, true_and, ↓ap_move, pop_move, ↓ap_len, pop_len, pLen_str Tryd.underlying9, ↓ap_binOp, pop_binOp, pBinX_int, pI_lss]
      repeat (with_reducible refine And.intro ?_ ?_; · first | trivial | omega | (intro hg; simp only [Bool.and_eq_true, Bool.or_eq_true, Bool.not_eq_true', Bool.and_eq_false_iff, Bool.or_eq_false_iff, Bool.not_eq_false', decide_eq_true_eq, decide_eq_false_iff_not, eqNil] at hg; omega) )
      apply hK; clear hK K
      refine awp_cond (b := _) rfl (fun hb3 => ?_) (fun hb3 => ?_)
      · try simp only [decide_eq_true_eq] at hb3
        refine awp_skip ?_
        change Awp _ _ _ _ _ _ _
        refine awp_seq ?_
        refine awp_block ?_
        -- region 12  law.go:105
        refine awp_r [1, 2, 4, 5, 6, 8, 9, 10, 11] (by rfl) ?_
        simp (decide := true) only [aOps_nil, ev, absV, absS, putD, Slots.put, Slots.get, Slots.keep, if_true, if_false, true_and, ↓ap_move, pop_move, ↓ag_move, agP, agQ_some, nthDst, gKnown_bool, guardB_bool_true, implies_true, ↓ag_index, pop_index, pIndex_str Tryd.underlying9, cv_indexl, cv_indexr, cp_indexl, cp_indexr, ↓ag_binOp, pop_binOp, cv_binl, cp_binl, pBinX_int, pI_eql, ↓ap_pick, pop_pick, pPick_bool, pickV_cond_l, pickV_and, ↓ap_assign, pop_assign, decA, Int.toNat_natCast]
        repeat (with_reducible refine And.intro ?_ ?_; · first | trivial | omega | (intro hg; simp only [Bool.and_eq_true, Bool.or_eq_true, Bool.not_eq_true', Bool.and_eq_false_iff, Bool.or_eq_false_iff, Bool.not_eq_false', decide_eq_true_eq, decide_eq_false_iff_not, eqNil] at hg; omega) )
        change Awp _ _ _ _ _ _ _
        -- region 11  law.go:104
        refine awp_r [1, 2, 4, 5, 6, 8, 9, 10, 11] (by rfl) ?_
        simp (decide := true) only [aOps_nil, ev, absV, absS, putD, Slots.put, Slots.get, Slots.keep, if_true, if_false, true_and, ↓ap_move, pop_move, ↓ap_binOp, pop_binOp, pBinX_int, pI_add, ↓ap_assign, pop_assign]
        try simp (disch := omega) only [wrap_i64]
        repeat (with_reducible refine And.intro ?_ ?_; · first | trivial | omega | (intro hg; simp only [Bool.and_eq_true, Bool.or_eq_true, Bool.not_eq_true', Bool.and_eq_false_iff, Bool.or_eq_false_iff, Bool.not_eq_false', decide_eq_true_eq, decide_eq_false_iff_not, eqNil] at hg; omega) )
        try simp only [thenA_normal]
        refine ⟨i + 1, ?_, Sub.refl _, by omega, by omega⟩
        rw [take_snoc lost i (by omega), List.all_append]
        rw [one48]
        rfl
      · try simp only [decide_eq_false_iff_not] at hb3
        have hil : i = lost.length := by omega
        rw [hil, List.take_length]
        refine awp_exit ?_
        change Awp _ _ _ _ _ _ _
        refine awp_seq ?_
        -- region 13  law.go:107
        refine awp_rseq [1, 2, 4, 5, 6, 8, 9, 58] (by rfl) fun K hK => ?_
        simp (decide := true) only [aOps_nil, ev, putD, Slots.put, Slots.get, Slots.keep, if_true, if_false, true_and, ↓ap_move, pop_move]
        repeat (with_reducible refine And.intro ?_ ?_; · first | trivial | omega | (intro hg; simp only [Bool.and_eq_true, Bool.or_eq_true, Bool.not_eq_true', Bool.and_eq_false_iff, Bool.or_eq_false_iff, Bool.not_eq_false', decide_eq_true_eq, decide_eq_false_iff_not, eqNil] at hg; omega) )
        apply hK; clear hK K
        refine awp_cond (b := _) rfl (fun hb4 => ?_) (fun hb4 => ?_)
        · try simp only [decide_eq_true_eq, decide_eq_false_iff_not, Bool.not_eq_true', Bool.not_eq_false', Bool.and_eq_true, Bool.and_eq_false_iff, Bool.or_eq_true, Bool.or_eq_false_iff, Bool.true_eq, Bool.false_eq, reduceCtorEq] at hb4
          -- region 14  law.go:108
          refine awp_dseq_G 2 [1] [k0q0] [4, 5, 6, 7] mixed (by kernel_rfl) (by rfl) fun K hK => ?_
          simp only [List.take_succ_cons, List.take_zero, List.drop_succ_cons, List.drop_zero]
          simp (decide := true) only [fOps_nil, ev, putD, Slots.put, Slots.get, if_true, if_false, true_and, ↓fp_load, pop_load, pLoad_agg ag28 sz28, rd_ne', ne_eq, not_false_eq_true, ne_0q1_0q0.symm, ne_0q2_0q0.symm, rd_any, cellsAt, List.getD_cons_zero, List.getD_cons_succ, Nat.zero_add, Nat.reduceAdd, lv_bool, lv_int, lv_str, allLive, Bool.and_true]
          repeat (with_reducible refine And.intro ?_ ?_; · first | trivial | omega | (intro hg; simp only [Bool.and_eq_true, Bool.or_eq_true, Bool.not_eq_true', Bool.and_eq_false_iff, Bool.or_eq_false_iff, Bool.not_eq_false', decide_eq_true_eq, decide_eq_false_iff_not, eqNil] at hg; omega) )
          try simp only [vOps_nil, fOps_nil]
          refine And.intro (by simp (decide := true) [lateOK, ev, Slots.get]) ?_
          refine kOps_step ?_
          refine aOps_store (by rfl) (by rfl) (by repeat (first | exact AHeap.set_same _ _ _ | assumption | refine (AHeap.set_ne _ _ (by first | assumption | exact Ne.symm (by assumption))).trans ?_)) sz28 (by rfl) (by rfl) (by first | exact Nat.le_refl _ | decide | (simp; done) | (simp; omega)) (Nat.zero_le _) (by rfl) ?_
          simp only [AVal.cells]
          rw [aOps_nil]
          refine And.intro (by intro k hk; simp only [List.mem_cons, List.not_mem_nil, or_false] at hk; first | rfl | (first | subst hk | (rcases hk with rfl | rfl | rfl | rfl | rfl)); all_goals simp [AHeap.set, ne_0q1_0q0.symm, ne_0q2_0q0.symm]) ?_
          refine kOps_step ?_
          refine aOps_store (by rfl) (by rfl) (by repeat (first | exact AHeap.set_same _ _ _ | assumption | refine (AHeap.set_ne _ _ (by first | assumption | exact Ne.symm (by assumption))).trans ?_)) sz28 (by rfl) (by rfl) (by first | exact Nat.le_refl _ | decide | (simp; done) | (simp; omega)) (Nat.zero_le _) (by rfl) ?_
          simp only [AVal.cells]
          rw [aOps_nil]
          refine And.intro (by intro k hk; simp only [List.mem_cons, List.not_mem_nil, or_false] at hk; first | rfl | (first | subst hk | (rcases hk with rfl | rfl | rfl | rfl | rfl)); all_goals simp [AHeap.set, ne_0q1_0q0.symm, ne_0q2_0q0.symm]) ?_
          simp (decide := true) only [kOps_nil, ev, absV, absS, putD, Slots.put, Slots.get, Slots.keep, if_true, if_false, true_and, ↓kp_assign, pop_assign, setAt, List.set_cons_zero, List.set_cons_succ, Nat.zero_add, Nat.reduceAdd]
          repeat (with_reducible refine And.intro ?_ ?_; · first | trivial | omega | (intro hg; simp only [Bool.and_eq_true, Bool.or_eq_true, Bool.not_eq_true', Bool.and_eq_false_iff, Bool.or_eq_false_iff, Bool.not_eq_false', decide_eq_true_eq, decide_eq_false_iff_not, eqNil] at hg; omega) )
          apply hK; clear hK K
          refine awp_ret ?_
          try simp only [thenA_ret]
          refine retA_ret h (by repeat (first | exact Sub.refl _ | refine Sub.trans_set ?_ (by assumption))) (?_) ?_
          · simp (decide := true) only [resPre, resV_tmp, resV_cell, Slots.get, if_true, if_false, and_true, resV_tmp, resV_cell, pLoad_agg ag28 sz28, rd_set, cellsAt, List.getD_cons_zero, List.getD_cons_succ, Nat.zero_add, Nat.reduceAdd, lv_bool, lv_int, lv_str, allLive, Bool.and_true, rd_ne', ne_eq, not_false_eq_true, ne_0q2_0q1.symm, cellsAt, List.getD_cons_zero, List.getD_cons_succ, Nat.zero_add, Nat.reduceAdd, lv_bool, lv_int, lv_str, allLive, Bool.and_true]
          
          simp (decide := true) only [Slots.get, if_true, if_false, and_true, resOfG_four, resV_tmp, resV_cell, pLoad_agg ag28 sz28, rd_set, cellsAt, List.getD_cons_zero, List.getD_cons_succ, Nat.zero_add, Nat.reduceAdd, lv_bool, lv_int, lv_str, allLive, Bool.and_true, rd_ne', ne_eq, not_false_eq_true, ne_0q2_0q1.symm, cellsAt, List.getD_cons_zero, List.getD_cons_succ, Nat.zero_add, Nat.reduceAdd, lv_bool, lv_int, lv_str, allLive, Bool.and_true, decA]
          have hz : natOf lost = 0 := (natOf_zero_iff lost hla).2 (by rw [List.all_eq_true] at hb4; exact fun b hb => by simpa using hb4 b hb)
          have e : lostB d s = false := by rw [hlB, decide_eq_true hz]; rfl
          rw [nearE, farE, lostS, e]; rfl
        · try simp only [decide_eq_true_eq, decide_eq_false_iff_not, Bool.not_eq_true', Bool.not_eq_false', Bool.and_eq_true, Bool.and_eq_false_iff, Bool.or_eq_true, Bool.or_eq_false_iff, Bool.true_eq, Bool.false_eq, reduceCtorEq] at hb4
          have hz : natOf lost ≠ 0 := fun hz => by
            have := (natOf_zero_iff lost hla).1 hz
            rw [List.all_eq_false] at hb4
            obtain ⟨b, hb, hb'⟩ := hb4
            exact hb' (by simp [this b hb])
          have hlT : lostB d s = true := by rw [hlB, decide_eq_false hz]; rfl
          refine awp_skip ?_
          change Awp _ _ _ _ _ _ _
          -- region 15  law.go:110
          refine awp_rseq [1, 2, 4, 5, 6, 8] (by rfl) fun K hK => ?_
          simp (decide := true) only [ev, putD, Slots.put, Slots.get, if_true, if_false, true_and, ↓ap_move, pop_move, ↓ap_len, pop_len, pLen_str Tryd.underlying9, ↓ap_binOp, pop_binOp, pBinX_int, pI_sub]
          try simp (disch := omega) only [wrap_i64]
          try simp (decide := true) only [aOps_nil, ev, putD, Slots.put, Slots.get, Slots.keep, if_true, if_false, true_and, ↓ap_slice, pop_slice, evO, pSliceS_0i Tryd.underlying9, pSliceS, bndA_none, bndA_int, ↓ap_assign, pop_assign, hidx, List.drop_zero, Nat.sub_zero, show Int.toNat ((0 : Nat) : Int) = 0 from rfl, ← hW]
          repeat (with_reducible refine And.intro ?_ ?_; · first | trivial | omega | (intro hg; simp only [Bool.and_eq_true, Bool.or_eq_true, Bool.not_eq_true', Bool.and_eq_false_iff, Bool.or_eq_false_iff, Bool.not_eq_false', decide_eq_true_eq, decide_eq_false_iff_not, eqNil] at hg; omega) )
          apply hK; clear hK K
          -- region 16  law.go:112
          refine awp_rseq [1, 2, 4, 5, 6, 8, 12] (by rfl) fun K hK => ?_
          simp (decide := true) only [ev, absV, absS, putD, Slots.put, Slots.get, if_true, if_false, true_and, ↓ap_move, pop_move, ↓ap_binOp, pop_binOp, pBinX_str, pS_add, List.cons_append, List.nil_append]
          refine And.intro (by simp; omega) ?_
          refine aOps_strBytes Tryd.underlying9 Tryd.underlying22 Tryd.underlying5 (by rfl) (by simp; omega) fun k16 hk16 => ?_
          have ne_16_0q0 : k16 ≠ k0q0 := by simp only [AHeap.set_none] at hk16; simp only [hk16, ne_eq, not_false_eq_true]
          have ne_16_0q1 : k16 ≠ k0q1 := by simp only [AHeap.set_none] at hk16; simp only [hk16, ne_eq, not_false_eq_true]
          have ne_16_0q2 : k16 ≠ k0q2 := by simp only [AHeap.set_none] at hk16; simp only [hk16, ne_eq, not_false_eq_true]
          try have hf_16 : h k16 = none := by first | assumption | (simp only [AHeap.set_none] at hk16; simp only [hk16])
          simp (decide := true) only [aOps_nil, ev, putD, Slots.put, Slots.get, Slots.keep, if_true, if_false, true_and, ↓ap_assign, pop_assign]
          repeat (with_reducible refine And.intro ?_ ?_; · first | trivial | omega | (intro hg; simp only [Bool.and_eq_true, Bool.or_eq_true, Bool.not_eq_true', Bool.and_eq_false_iff, Bool.or_eq_false_iff, Bool.not_eq_false', decide_eq_true_eq, decide_eq_false_iff_not, eqNil] at hg; omega) )
          apply hK; clear hK K
          refine awp_seq ?_
          -- region 17  law.go:113
          refine awp_rseq [1, 2, 4, 5, 6, 8, 12, 13] (by rfl) fun K hK => ?_
          simp (decide := true) only [aOps_nil, ev, absV, absS, putD, Slots.put, Slots.get, Slots.keep, if_true, if_false, true_and, ↓ap_move, pop_move, ↓ap_len, pop_len, pLen_slice Tryd.underlying22, ↓ap_binOp, pop_binOp, pBinX_int, pI_sub, ↓ap_assign, pop_assign, List.length_cons]
          try simp (disch := omega) only [wrap_i64]
          repeat (with_reducible refine And.intro ?_ ?_; · first | trivial | omega | (intro hg; simp only [Bool.and_eq_true, Bool.or_eq_true, Bool.not_eq_true', Bool.and_eq_false_iff, Bool.or_eq_false_iff, Bool.not_eq_false', decide_eq_true_eq, decide_eq_false_iff_not, eqNil] at hg; omega) )
          apply hK; clear hK K
          refine awp_block ?_
          refine awp_loopG [1, 2, 4, 5, 6, 8, 12, 13] (fun i : Nat => [(1, .int .i64 s), (2, .ptr (.own k0q0) 0), (4, .ptr (.own k0q1) 0), (5, .ptr (.own k0q2) 0), (6, .str lost), (8, .str W), (12, .slice (.own k16) 0 (W.length + 1) (.grow 1)), (13, .int .i64 i)]) (fun i : Nat => (((h.set k0q0 ⟨[.bool d.neg, .str d.dig, .int .i64 d.scale], 0⟩).set k0q1 ⟨[.bool false, .str [], .int .i64 0], 0⟩).set k0q2 ⟨[.bool false, .str [], .int .i64 0], 0⟩).set k16 ⟨byteCells (incT (48 :: W) i), 0⟩) (fun i : Nat => i < (48 :: W).length ∧ ∀ j, i < j → j < (48 :: W).length → (48 :: W).getD j 0 = 57) (fun i : Nat => i) W.length (by rw [show ((W.length + 1 : Nat) : Int) - 1 = W.length by omega]; rfl) (by have e := incT_start (48 :: W) (by simp); rw [List.length_cons, Nat.add_sub_cancel] at e; rw [e]; exact Sub.refl _) ⟨by simp, fun j h1 h2 => by rw [List.length_cons] at h2; omega⟩ ?_
          rintro i ⟨hi, h9⟩
          have hTl := incT_len _ _ hi
          have hTg := incT_get _ _ hi
          have hil2 : i < W.length + 1 := by simpa using hi
          have hcell : (byteCells (incT (48 :: W) i)).getD i .dead = .int .u8 ((48 :: W).getD i 0).toNat := by rw [byteCells_getD (by omega), hTg]
          refine awp_seq ?_
          -- region 18  law.go:113
          refine awp_rseq [1, 2, 4, 5, 6, 8, 12, 13, 74] (by rfl) fun K hK => ?_
          simp (decide := true) only [aOps_nil, ev, absV, absS, putD, Slots.put, Slots.get, Slots.keep, if_true, if_false, true_and, ↓ap_move, pop_move, ↓ap_binOp, pop_binOp, pBinX_int, pI_geq]
          repeat (with_reducible refine And.intro ?_ ?_; · first | trivial | omega | (intro hg; simp only [Bool.and_eq_true, Bool.or_eq_true, Bool.not_eq_true', Bool.and_eq_false_iff, Bool.or_eq_false_iff, Bool.not_eq_false', decide_eq_true_eq, decide_eq_false_iff_not, eqNil] at hg; omega) )
          apply hK; clear hK K
          refine awp_cond (b := _) rfl (fun hb5 => ?_) (fun hb5 => ?_)
          · try simp only [decide_eq_true_eq] at hb5
            refine awp_skip ?_
            change Awp _ _ _ _ _ _ _
            refine awp_seq ?_
            refine awp_block ?_
            refine awp_seq ?_
            -- region 20  law.go:114
            refine awp_rseq [1, 2, 4, 5, 6, 8, 12, 13, 81] (by rfl) fun K hK => ?_
            simp (decide := true) only [aOps_nil, ev, absV, absS, putD, Slots.put, Slots.get, Slots.keep, if_true, if_false, true_and, ↓ap_move, pop_move, ↓ap_indexAddrL, apL_mk, pIndexAddr_slice Tryd.underlying22 sz5, ↓ap_loadL, pLoad_one ag5, ↓ap_binOp, pop_binOp, pBinX_int, pI_lss, rd_any, Nat.zero_add, lv_int, Int.toNat_natCast, Nat.mul_one, hcell]
            repeat (with_reducible refine And.intro ?_ ?_; · first | trivial | omega | (intro hg; simp only [Bool.and_eq_true, Bool.or_eq_true, Bool.not_eq_true', Bool.and_eq_false_iff, Bool.or_eq_false_iff, Bool.not_eq_false', decide_eq_true_eq, decide_eq_false_iff_not, eqNil] at hg; omega) )
            apply hK; clear hK K
            refine awp_cond (b := _) rfl (fun hb6 => ?_) (fun hb6 => ?_)
            · try simp only [decide_eq_true_eq] at hb6
              -- region 21  law.go:115
              refine awp_rseq [1, 2, 4, 5, 6, 8, 12] (by rfl) fun K hK => ?_
              simp (decide := true) only [ev, absV, absS, putD, Slots.put, Slots.get, if_true, if_false, true_and, ↓ap_move, pop_move, ↓ap_indexAddrL, apL_mk, pIndexAddr_slice Tryd.underlying22 sz5, ↓ap_loadL, pLoad_one ag5, ↓ap_binOp, pop_binOp, pBinX_int, pI_add, rd_any, Nat.zero_add, lv_int, Int.toNat_natCast, Nat.mul_one, hcell]
              try simp (disch := omega) only [wrap_u8]
              try simp (decide := true) only [aOps_nil, vOps_nil, fOps_nil, kOps_nil, ev, absV, absS, putD, Slots.put, Slots.get, Slots.keep, if_true, if_false, List.contains_cons, List.contains_nil, true_and, and_true, ↓ap_indexAddrL, apL_mk, pIndexAddr_slice Tryd.underlying22 sz5, rd_ne', ne_eq, not_false_eq_true, ne_0q1_0q0, ne_0q1_0q0.symm, ne_0q2_0q0, ne_0q2_0q0.symm, ne_0q2_0q1, ne_0q2_0q1.symm, ne_16_0q0, ne_16_0q0.symm, ne_16_0q1, ne_16_0q1.symm, ne_16_0q2, ne_16_0q2.symm, rd_any, AVal.cells, setAt, List.set_cons_zero, List.set_cons_succ, cellsAt, List.getD_cons_zero, List.getD_cons_succ, Nat.zero_add, Nat.reduceAdd, lv_bool, lv_int, lv_str, lv_nilPtr, lv_ptr, lv_nilSlice, lv_slice, lv_nilFunc, lv_func, lv_nilIface, lv_iface, lv_nilMap, lv_agg, lv_tuple, allLive, Bool.and_true, decA, Int.toNat_natCast, Nat.mul_one, hcell]
              repeat (with_reducible refine And.intro ?_ ?_; · first | trivial | omega | (intro hg; simp only [Bool.and_eq_true, Bool.or_eq_true, Bool.not_eq_true', Bool.and_eq_false_iff, Bool.or_eq_false_iff, Bool.not_eq_false', decide_eq_true_eq, decide_eq_false_iff_not, eqNil] at hg; omega) )
              refine aOps_storeByte (i := i) (bs := incT (48 :: W) i) (by rfl) (by rfl) sz5 (by rfl) rfl (by omega) (Nat.zero_le _) (by omega) (by omega) ?_
              have hWa2 : (48 :: W).all dg = true := by rw [List.all_cons, hWa]; rfl
              obtain ⟨iv1, iv2⟩ := inc_at (48 :: W) hWa2 i hi h9 (by omega)
              rw [show (((48 :: W).getD i 0).toNat + 1 : Int).toNat = ((48 :: W).getD i 0).toNat + 1 by omega, incT_set _ _ hi]
              have hTlen : ((48 :: W).take i ++ UInt8.ofNat (((48 :: W).getD i 0).toNat + 1) :: List.replicate ((48 :: W).length - 1 - i) 48).length = W.length + 1 := by simp; omega
              generalize (48 :: W).take i ++ UInt8.ofNat (((48 :: W).getD i 0).toNat + 1) :: List.replicate ((48 :: W).length - 1 - i) 48 = T at *
              rw [natOf_cons, show dv 48 = 0 from rfl, Nat.zero_mul, Nat.zero_add] at iv1
              have hbT : IsB w₀ ((((h.set k0q0 ⟨[.bool d.neg, .str d.dig, .int .i64 d.scale], 0⟩).set k0q1 ⟨[.bool false, .str [], .int .i64 0], 0⟩).set k0q2 ⟨[.bool false, .str [], .int .i64 0], 0⟩).set k16 ⟨byteCells T, 0⟩) (.slice (.own k16) 0 (W.length + 1) (.grow 1)) T := IsB.own (AHeap.set_same _ _ _) hTlen.symm rfl
              simp (decide := true) only [aOps_nil, putD, Slots.keep, if_true, if_false]
              repeat (with_reducible refine And.intro ?_ ?_; · first | trivial | omega | (intro hg; simp only [Bool.and_eq_true, Bool.or_eq_true, Bool.not_eq_true', Bool.and_eq_false_iff, Bool.or_eq_false_iff, Bool.not_eq_false', decide_eq_true_eq, decide_eq_false_iff_not, eqNil] at hg; omega) )
              apply hK; clear hK K
              refine awp_exit ?_
              change Awp _ _ _ _ _ _ _
              -- region 23  law.go:120
              refine awp_rseq [1, 2, 4, 5, 6, 8, 14] (by rfl) fun K hK => ?_
              simp (decide := true) only [aOps_nil, ev, putD, Slots.put, Slots.get, Slots.keep, if_true, if_false, true_and, ↓ap_move, pop_move, ↓ap_convert _ _ _ (es_str Tryd.underlying22 Tryd.underlying9), pop_convert, ↓ap_assign, pop_assign, hbT.conv Tryd.underlying22 Tryd.underlying9 Tryd.underlying5]
              try simp (disch := omega) only [wrap_i64, wrap_u8]
              repeat (with_reducible refine And.intro ?_ ?_; · first | trivial | omega | (intro hg; simp only [Bool.and_eq_true, Bool.or_eq_true, Bool.not_eq_true', Bool.and_eq_false_iff, Bool.or_eq_false_iff, Bool.not_eq_false', decide_eq_true_eq, decide_eq_false_iff_not, eqNil] at hg; omega) )
              apply hK; clear hK K
              refine awp_seq ?_
              -- region 24  law.go:121
              refine awp_rseq [1, 2, 4, 5, 6, 8, 14, 15] (by rfl) fun K hK => ?_
              simp (decide := true) only [aOps_nil, ev, putD, Slots.put, Slots.get, Slots.keep, if_true, if_false, true_and, ↓ap_move, pop_move, ↓ap_assign, pop_assign]
              repeat (with_reducible refine And.intro ?_ ?_; · first | trivial | omega | (intro hg; simp only [Bool.and_eq_true, Bool.or_eq_true, Bool.not_eq_true', Bool.and_eq_false_iff, Bool.or_eq_false_iff, Bool.not_eq_false', decide_eq_true_eq, decide_eq_false_iff_not, eqNil] at hg; omega) )
              apply hK; clear hK K
              refine awp_block ?_
              refine awp_loopG [1, 2, 4, 5, 6, 8, 14, 15] (fun j : Nat => [(1, .int .i64 s), (2, .ptr (.own k0q0) 0), (4, .ptr (.own k0q1) 0), (5, .ptr (.own k0q2) 0), (6, .str lost), (8, .str (W ++ List.replicate j 48)), (14, .str (T ++ List.replicate j 48)), (15, .int .i64 (s + j))]) (fun j : Nat => (((h.set k0q0 ⟨[.bool d.neg, .str d.dig, .int .i64 d.scale], 0⟩).set k0q1 ⟨[.bool false, .str [], .int .i64 0], 0⟩).set k0q2 ⟨[.bool false, .str [], .int .i64 0], 0⟩)) (fun j : Nat => j ≤ (-s).toNat) (fun j : Nat => (-s).toNat - j) 0 (by simp only [List.replicate_zero, List.append_nil, Int.natCast_zero, Int.add_zero]; rfl) (by repeat (first | exact Sub.refl _ | refine Sub.trans_set ?_ (by assumption))) (Nat.zero_le _) ?_
              intro j hj
              refine awp_seq ?_
              -- region 25  law.go:121
              refine awp_rseq [1, 2, 4, 5, 6, 8, 14, 15, 95] (by rfl) fun K hK => ?_
              simp (decide := true) only [aOps_nil, ev, absV, absS, putD, Slots.put, Slots.get, Slots.keep, if_true, if_false, true_and, ↓ap_move, pop_move, ↓ap_binOp, pop_binOp, pBinX_int, pI_lss]
              repeat (with_reducible refine And.intro ?_ ?_; · first | trivial | omega | (intro hg; simp only [Bool.and_eq_true, Bool.or_eq_true, Bool.not_eq_true', Bool.and_eq_false_iff, Bool.or_eq_false_iff, Bool.not_eq_false', decide_eq_true_eq, decide_eq_false_iff_not, eqNil] at hg; omega) )
              apply hK; clear hK K
              refine awp_cond (b := _) rfl (fun hb7 => ?_) (fun hb7 => ?_)
              · try simp only [decide_eq_true_eq] at hb7
                refine awp_skip ?_
                change Awp _ _ _ _ _ _ _
                refine awp_seq ?_
                refine awp_block ?_
                -- region 27  law.go:122
                refine awp_rseq [1, 2, 4, 5, 6, 8, 14, 15] (by rfl) fun K hK => ?_
                simp (decide := true) only [aOps_nil, ev, absV, absS, putD, Slots.put, Slots.get, Slots.keep, if_true, if_false, true_and, ↓ap_move, pop_move, ↓ap_binOp, pop_binOp, pBinX_str, pS_add, ↓ap_assign, pop_assign]
                refine And.intro (by simp; omega) ?_
                apply hK; clear hK K
                -- region 28  law.go:123
                refine awp_r [1, 2, 4, 5, 6, 8, 14, 15] (by rfl) ?_
                simp (decide := true) only [aOps_nil, ev, absV, absS, putD, Slots.put, Slots.get, Slots.keep, if_true, if_false, true_and, ↓ap_move, pop_move, ↓ap_binOp, pop_binOp, pBinX_str, pS_add, ↓ap_assign, pop_assign, decA]
                refine And.intro (by simp; omega) ?_
                change Awp _ _ _ _ _ _ _
                -- region 26  law.go:121
                refine awp_r [1, 2, 4, 5, 6, 8, 14, 15] (by rfl) ?_
                simp (decide := true) only [aOps_nil, ev, absV, absS, putD, Slots.put, Slots.get, Slots.keep, if_true, if_false, true_and, ↓ap_move, pop_move, ↓ap_binOp, pop_binOp, pBinX_int, pI_add, ↓ap_assign, pop_assign]
                try simp (disch := omega) only [wrap_i64]
                repeat (with_reducible refine And.intro ?_ ?_; · first | trivial | omega | (intro hg; simp only [Bool.and_eq_true, Bool.or_eq_true, Bool.not_eq_true', Bool.and_eq_false_iff, Bool.or_eq_false_iff, Bool.not_eq_false', decide_eq_true_eq, decide_eq_false_iff_not, eqNil] at hg; omega) )
                try simp only [thenA_normal]
                refine ⟨j + 1, ?_, Sub.refl _, by omega, by omega⟩
                rw [List.append_assoc, List.append_assoc, ← List.replicate_succ', show s + (j : Int) + 1 = s + (j + 1 : Nat) by omega]
                rfl
              · try simp only [decide_eq_false_iff_not] at hb7
                have hjs : j = (-s).toNat := by omega
                have hW1 : (W ++ List.replicate j 48).all dg = true := by rw [all_append, all_zeros, hWa]; rfl
                have hT1 : (T ++ List.replicate j 48).all dg = true := by rw [all_append, all_zeros, iv2]; rfl
                refine awp_exit ?_
                change Awp _ _ _ _ _ _ _
                -- region 29  law.go:125
                refine awp_dseq_F 13 [12] [4, 5, 6, 7] mixed (by kernel_rfl) (by rfl) fun K hK => ?_
                simp only [List.take_succ_cons, List.take_zero, List.drop_succ_cons, List.drop_zero]
                simp (decide := true) only [ev, absV, absS, putD, Slots.put, Slots.get, if_true, if_false, true_and, ↓fp_fieldAddr, pop_fieldAddr, fa28_0, ↓fp_load, pop_load, pLoad_one ag4, ↓fp_move, pop_move, ↓fp_max, pop_max, pMax_int, evs, List.map_cons, List.map_nil, rd_ne', ne_eq, not_false_eq_true, ne_0q1_0q0.symm, ne_0q2_0q0.symm, rd_any, List.getD_cons_zero, Nat.zero_add, lv_bool]
                repeat (with_reducible refine And.intro ?_ ?_; · first | trivial | omega | (intro hg; simp only [Bool.and_eq_true, Bool.or_eq_true, Bool.not_eq_true', Bool.and_eq_false_iff, Bool.or_eq_false_iff, Bool.not_eq_false', decide_eq_true_eq, decide_eq_false_iff_not, eqNil] at hg; omega) )
                refine fOps_callV (V := decA (stepsD d.neg (wholeN d s) s)) (by rfl) (by rfl) (by first | trivial | (simp (decide := true) only [AVal.okIn, okInL, and_true, true_and, decA, AHeap.set_same, Option.isSome_some]; done) | (simp [AVal.okIn, okInL, AHeap.set]; done)) (fun g hg => (c_Normal w₀ _ d.neg _ _ hW1 (by simp; omega) (by omega) (by omega)).val (by rw [natOf_append, natOf_zeros, List.length_replicate, sp1, hjs, stepsD, wholeN, Nat.add_zero, show (max s 0).toNat = s.toNat by omega])) ?_
                simp (decide := true) only [ev, absV, absS, putD, Slots.put, Slots.get, if_true, if_false, true_and, ↓fp_fieldAddr, pop_fieldAddr, fa28_0, ↓fp_load, pop_load, pLoad_one ag4, ↓fp_move, pop_move, ↓fp_max, pop_max, pMax_int, evs, List.map_cons, List.map_nil, rd_ne', ne_eq, not_false_eq_true, ne_0q1_0q0.symm, ne_0q2_0q0.symm, rd_any, List.getD_cons_zero, Nat.zero_add, lv_bool, decA]
                repeat (with_reducible refine And.intro ?_ ?_; · first | trivial | omega | (intro hg; simp only [Bool.and_eq_true, Bool.or_eq_true, Bool.not_eq_true', Bool.and_eq_false_iff, Bool.or_eq_false_iff, Bool.not_eq_false', decide_eq_true_eq, decide_eq_false_iff_not, eqNil] at hg; omega) )
                refine fOps_callV (V := decA (stepsD d.neg (wholeN d s + 1) s)) (by rfl) (by rfl) (by first | trivial | (simp (decide := true) only [AVal.okIn, okInL, and_true, true_and, decA, AHeap.set_same, Option.isSome_some]; done) | (simp [AVal.okIn, okInL, AHeap.set]; done)) (fun g hg => (c_Normal w₀ _ d.neg _ _ hT1 (by simp; omega) (by omega) (by omega)).val (by rw [natOf_append, natOf_zeros, List.length_replicate, iv1, sp1, hjs, stepsD, wholeN, Nat.add_zero, show (max s 0).toNat = s.toNat by omega])) ?_
                simp (decide := true) only [fOps_nil, ev, putD, Slots.put, Slots.get, if_true, if_false, true_and, ↓fp_move, pop_move, decA]
                repeat (with_reducible refine And.intro ?_ ?_; · first | trivial | omega | (intro hg; simp only [Bool.and_eq_true, Bool.or_eq_true, Bool.not_eq_true', Bool.and_eq_false_iff, Bool.or_eq_false_iff, Bool.not_eq_false', decide_eq_true_eq, decide_eq_false_iff_not, eqNil] at hg; omega) )
                try simp only [vOps_nil, fOps_nil]
                refine aOps_store (by rfl) (by rfl) (by repeat (first | exact AHeap.set_same _ _ _ | assumption | refine (AHeap.set_ne _ _ (by first | assumption | exact Ne.symm (by assumption))).trans ?_)) sz28 (by rfl) (by rfl) (by first | exact Nat.le_refl _ | decide | (simp; done) | (simp; omega)) (Nat.zero_le _) (by rfl) ?_
                simp only [AVal.cells]
                refine aOps_store (by rfl) (by rfl) (by repeat (first | exact AHeap.set_same _ _ _ | assumption | refine (AHeap.set_ne _ _ (by first | assumption | exact Ne.symm (by assumption))).trans ?_)) sz28 (by rfl) (by rfl) (by first | exact Nat.le_refl _ | decide | (simp; done) | (simp; omega)) (Nat.zero_le _) (by rfl) ?_
                simp only [AVal.cells]
                simp (decide := true) only [aOps_nil, ev, absV, absS, putD, Slots.put, Slots.get, Slots.keep, if_true, if_false, true_and, ↓ap_assign, pop_assign, setAt, List.set_cons_zero, List.set_cons_succ, Nat.zero_add, Nat.reduceAdd]
                repeat (with_reducible refine And.intro ?_ ?_; · first | trivial | omega | (intro hg; simp only [Bool.and_eq_true, Bool.or_eq_true, Bool.not_eq_true', Bool.and_eq_false_iff, Bool.or_eq_false_iff, Bool.not_eq_false', decide_eq_true_eq, decide_eq_false_iff_not, eqNil] at hg; omega) )
                apply hK; clear hK K
                refine awp_ret ?_
                try simp only [thenA_ret, inBlockA_ret]
                refine retA_ret h (by repeat (first | exact Sub.refl _ | refine Sub.trans_set ?_ (by assumption))) (?_) ?_
                · simp (decide := true) only [resPre, resV_tmp, resV_cell, Slots.get, if_true, if_false, and_true, resV_tmp, resV_cell, pLoad_agg ag28 sz28, rd_set, cellsAt, List.getD_cons_zero, List.getD_cons_succ, Nat.zero_add, Nat.reduceAdd, lv_bool, lv_int, lv_str, allLive, Bool.and_true, rd_ne', ne_eq, not_false_eq_true, ne_0q2_0q1.symm, cellsAt, List.getD_cons_zero, List.getD_cons_succ, Nat.zero_add, Nat.reduceAdd, lv_bool, lv_int, lv_str, allLive, Bool.and_true]
                
                simp (decide := true) only [Slots.get, if_true, if_false, and_true, resOfG_four, resV_tmp, resV_cell, pLoad_agg ag28 sz28, rd_set, cellsAt, List.getD_cons_zero, List.getD_cons_succ, Nat.zero_add, Nat.reduceAdd, lv_bool, lv_int, lv_str, allLive, Bool.and_true, rd_ne', ne_eq, not_false_eq_true, ne_0q2_0q1.symm, cellsAt, List.getD_cons_zero, List.getD_cons_succ, Nat.zero_add, Nat.reduceAdd, lv_bool, lv_int, lv_str, allLive, Bool.and_true, decA]
                have e : lostS d s = lost := by
                  rw [lostS, if_pos hlT]
                  exact (fixS_of hla (by rw [sp2, lostN]) hll).symm
                rw [nearE, farE, if_pos hlT, if_pos hlT, e, hlT]
            · try simp only [decide_eq_false_iff_not] at hb6
              refine awp_skip ?_
              change Awp _ _ _ _ _ _ _
              -- region 22  law.go:118
              refine awp_r [1, 2, 4, 5, 6, 8, 12, 13] (by rfl) ?_
              simp (decide := true) only [ev, putD, Slots.put, Slots.get, if_true, if_false, true_and, ↓ap_move, pop_move, ↓ap_indexAddrL, apL_mk, pIndexAddr_slice Tryd.underlying22 sz5, Nat.zero_add, decA, Int.toNat_natCast, Nat.mul_one]
              repeat (with_reducible refine And.intro ?_ ?_; · first | trivial | omega | (intro hg; simp only [Bool.and_eq_true, Bool.or_eq_true, Bool.not_eq_true', Bool.and_eq_false_iff, Bool.or_eq_false_iff, Bool.not_eq_false', decide_eq_true_eq, decide_eq_false_iff_not, eqNil] at hg; omega) )
              refine aOps_storeByte (i := i) (bs := incT (48 :: W) i) (by rfl) (by rfl) sz5 (by rfl) rfl (by omega) (Nat.zero_le _) (by omega) (by omega) ?_
              simp (decide := true) only [aOps_nil, putD, Slots.keep, if_true, if_false]
              repeat (with_reducible refine And.intro ?_ ?_; · first | trivial | omega | (intro hg; simp only [Bool.and_eq_true, Bool.or_eq_true, Bool.not_eq_true', Bool.and_eq_false_iff, Bool.or_eq_false_iff, Bool.not_eq_false', decide_eq_true_eq, decide_eq_false_iff_not, eqNil] at hg; omega) )
              change Awp _ _ _ _ _ _ _
              -- region 19  law.go:113
              refine awp_r [1, 2, 4, 5, 6, 8, 12, 13] (by rfl) ?_
              simp (decide := true) only [aOps_nil, ev, absV, absS, putD, Slots.put, Slots.get, Slots.keep, if_true, if_false, true_and, ↓ap_move, pop_move, ↓ap_binOp, pop_binOp, pBinX_int, pI_sub, ↓ap_assign, pop_assign]
              try simp (disch := omega) only [wrap_i64]
              repeat (with_reducible refine And.intro ?_ ?_; · first | trivial | omega | (intro hg; simp only [Bool.and_eq_true, Bool.or_eq_true, Bool.not_eq_true', Bool.and_eq_false_iff, Bool.or_eq_false_iff, Bool.not_eq_false', decide_eq_true_eq, decide_eq_false_iff_not, eqNil] at hg; omega) )
              try simp only [thenA_normal]
              have h57 : (48 :: W).getD i 0 = 57 := by
                have hWa2 : (48 :: W).all dg = true := by rw [List.all_cons, hWa]; rfl
                have := dg_at hWa2 i hi
                exact UInt8.toNat_inj.1 (show _ = 57 by omega)
              have hi0 : i ≠ 0 := fun e => by subst e; exact absurd h57 (by simp)
              obtain ⟨i', rfl⟩ : ∃ i', i = i' + 1 := ⟨i - 1, by omega⟩
              refine ⟨i', ?_, ?_, ⟨by omega, fun j h1 h2 => ?_⟩, by omega⟩
              · rw [show ((i' + 1 : Nat) : Int) - 1 = i' by omega]; rfl
              · rw [show UInt8.ofNat (48 : Int).toNat = 48 from rfl, incT_step _ _ hi]; exact Sub.refl _
              · rcases Nat.eq_or_lt_of_le h1 with e | e
                · rw [← e]; exact h57
                · exact h9 j (by omega) h2
          · try simp only [decide_eq_false_iff_not] at hb5
            exfalso; omega
end Go.Proofs.YtnaioficflbioaaDoor
