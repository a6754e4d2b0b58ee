/-
  Contracts: Bytes and at of the law's package; what Fill and Fit give where they give no error.
  Conditions: none.
-/
import Derived.Test.YtmnlmfiokbnhhaaChH
set_option linter.unusedSimpArgs false
set_option linter.unusedVariables false
namespace Go.Proofs.Ytmnlmfiokbnhhaa
open Go.AM
open Go.Proofs
set_option maxRecDepth 100000

theorem c_bytes (w₀ : World) (h : AHeap) (v : AVal) (bs want : List UInt8) (hb : IsB w₀ h v bs) (hc : pCap Try.prog 25 v = ⟨True, .int .i64 bs.length⟩) :
    ACall Try.prog w₀ 17 [v, .str want] h (fun r h' => r = .int .i64 (if bs = want then 0 else 1) ∧ h' = h) := by
  refine acall_intro (n := 16) (rs := [.tmp 4]) Try.func17 rfl rfl rfl rfl (Nat.le_of_ble_eq_true rfl) ?_
  simp only [initSlots]
  -- region 0  law.go:10
  refine awp_rseq [0, 1] (by rfl) fun K hK => ?_
  simp (decide := true) only [aOps_nil, ev, absV, absS, putD, Slots.put, Slots.get, Slots.keep, if_true, if_false, List.contains_cons, List.contains_nil, true_and, and_true, ↓ap_assign, pop_assign, hb.len Try.underlying25, hb.apI Try.underlying25 sz5, hb.agI Try.underlying25 sz5, hb.apLd ag5, hb.agLd ag5, hb.eqnil Try.underlying25, hb.nenil Try.underlying25, hb.conv Try.underlying25 Try.underlying9 Try.underlying5, hc]
  repeat (with_reducible refine And.intro ?_ ?_; · first | trivial | omega | (intro hg; simp only [Bool.and_eq_true, Bool.or_eq_true, Bool.not_eq_true', Bool.and_eq_false_iff, Bool.or_eq_false_iff, Bool.not_eq_false', decide_eq_true_eq, decide_eq_false_iff_not, eqNil] at hg; omega))
  apply hK; clear hK K
  refine awp_seq ?_
  -- region 1  law.go:11
  refine awp_rseq [15] (by rfl) fun K hK => ?_
  simp (decide := true) only [aOps_nil, ev, absV, absS, putD, Slots.put, Slots.get, Slots.keep, if_true, if_false, List.contains_cons, List.contains_nil, true_and, and_true, ↓ap_move, pop_move, ↓ap_convert _ _ _ (es_str Try.underlying25 Try.underlying9), pop_convert, pConv_nil Try.underlying25 Try.underlying9 Try.underlying5, pConv_bytes Try.underlying25 Try.underlying9 Try.underlying5, ↓ap_binOp, pop_binOp, pBinX_str, pS_neq, ↓ag_move, agP, agQ_some, gv, nthDst, gKnown_bool, gKnown_cond, guardB_cond, guardB_bool_true, guardB_bool_false, cv_cv, implies_true, Bool.not_not, decide_true, decide_false, Bool.not_false, Bool.not_true, condV_true, condV_false, forall_const, Bool.and_true, Bool.and_false, Bool.true_and, Bool.false_and, Bool.or_true, Bool.or_false, Bool.true_or, Bool.false_or, ↓ag_cap, pop_cap, pCap_slice Try.underlying25, pCap_nil Try.underlying25, cv_cap, cp_cap, ↓ag_len, pop_len, pLen_slice Try.underlying25, pLen_nil Try.underlying25, cv_len, cp_len, ↓ag_binOp, cv_binl, cv_binr, cp_binl, cp_binr, pBinX_int, pI_gtr, ↓ap_pick, pop_pick, pPick_bool, pickV_cond_l, pickV_cond_r, pickV_cond_rn, cp_nest1, cp_nest2, cp_nest3, cp_nest4, pickV_and, pickV_or, hb.len Try.underlying25, hb.apI Try.underlying25 sz5, hb.agI Try.underlying25 sz5, hb.apLd ag5, hb.agLd ag5, hb.eqnil Try.underlying25, hb.nenil Try.underlying25, hb.conv Try.underlying25 Try.underlying9 Try.underlying5, hc]
  try simp (disch := omega) only [wrap_i64, wrap_u8]
  repeat (with_reducible refine And.intro ?_ ?_; · first | trivial | omega | (intro hg; simp only [Bool.and_eq_true, Bool.or_eq_true, Bool.not_eq_true', Bool.and_eq_false_iff, Bool.or_eq_false_iff, Bool.not_eq_false', decide_eq_true_eq, decide_eq_false_iff_not, eqNil] at hg; omega))
  apply hK; clear hK K
  refine awp_cond (b := _) rfl (fun hb1 => ?_) (fun hb1 => ?_)
  · try simp only [decide_eq_true_eq, decide_eq_false_iff_not, Bool.not_eq_true', Bool.not_eq_false', Bool.and_eq_true, Bool.and_eq_false_iff, Bool.or_eq_true, Bool.or_eq_false_iff, Bool.true_eq, Bool.false_eq, reduceCtorEq] at hb1
    -- region 2  law.go:12
    refine awp_rseq [4] (by rfl) fun K hK => ?_
    simp (decide := true) only [aOps_nil, ev, absV, absS, putD, Slots.put, Slots.get, Slots.keep, if_true, if_false, List.contains_cons, List.contains_nil, true_and, and_true, ↓ap_assign, pop_assign, hb.len Try.underlying25, hb.apI Try.underlying25 sz5, hb.agI Try.underlying25 sz5, hb.apLd ag5, hb.agLd ag5, hb.eqnil Try.underlying25, hb.nenil Try.underlying25, hb.conv Try.underlying25 Try.underlying9 Try.underlying5, hc]
    repeat (with_reducible refine And.intro ?_ ?_; · first | trivial | omega | (intro hg; simp only [Bool.and_eq_true, Bool.or_eq_true, Bool.not_eq_true', Bool.and_eq_false_iff, Bool.or_eq_false_iff, Bool.not_eq_false', decide_eq_true_eq, decide_eq_false_iff_not, eqNil] at hg; omega))
    apply hK; clear hK K
    refine awp_ret ?_
    try simp only [thenA_ret, inBlockA_ret]
    refine retA_ret _ (Sub.refl _) (resPre_tmp (resPre_nil)) ?_
    simp (decide := true) only [aOps_nil, ev, absV, absS, putD, Slots.put, Slots.get, Slots.keep, if_true, if_false, List.contains_cons, List.contains_nil, true_and, and_true, resOf_one, hb.len Try.underlying25, hb.apI Try.underlying25 sz5, hb.agI Try.underlying25 sz5, hb.apLd ag5, hb.agLd ag5, hb.eqnil Try.underlying25, hb.nenil Try.underlying25, hb.conv Try.underlying25 Try.underlying9 Try.underlying5, hc]
    simp only [Int.lt_irrefl, decide_false, Bool.or_false, Bool.not_eq_true', decide_eq_false_iff_not, or_false] at hb1
    rw [if_neg hb1]
  · try simp only [decide_eq_true_eq, decide_eq_false_iff_not, Bool.not_eq_true', Bool.not_eq_false', Bool.and_eq_true, Bool.and_eq_false_iff, Bool.or_eq_true, Bool.or_eq_false_iff, Bool.true_eq, Bool.false_eq, reduceCtorEq] at hb1
    refine awp_skip ?_
    change Awp _ _ _ _ _ _ _
    -- region 3  law.go:14
    refine awp_rseq [4] (by rfl) fun K hK => ?_
    simp (decide := true) only [aOps_nil, ev, absV, absS, putD, Slots.put, Slots.get, Slots.keep, if_true, if_false, List.contains_cons, List.contains_nil, true_and, and_true, ↓ap_assign, pop_assign, hb.len Try.underlying25, hb.apI Try.underlying25 sz5, hb.agI Try.underlying25 sz5, hb.apLd ag5, hb.agLd ag5, hb.eqnil Try.underlying25, hb.nenil Try.underlying25, hb.conv Try.underlying25 Try.underlying9 Try.underlying5, hc]
    repeat (with_reducible refine And.intro ?_ ?_; · first | trivial | omega | (intro hg; simp only [Bool.and_eq_true, Bool.or_eq_true, Bool.not_eq_true', Bool.and_eq_false_iff, Bool.or_eq_false_iff, Bool.not_eq_false', decide_eq_true_eq, decide_eq_false_iff_not, eqNil] at hg; omega))
    apply hK; clear hK K
    refine awp_ret ?_
    try simp only [thenA_ret, inBlockA_ret]
    refine retA_ret _ (Sub.refl _) (resPre_tmp (resPre_nil)) ?_
    simp (decide := true) only [aOps_nil, ev, absV, absS, putD, Slots.put, Slots.get, Slots.keep, if_true, if_false, List.contains_cons, List.contains_nil, true_and, and_true, resOf_one, hb.len Try.underlying25, hb.apI Try.underlying25 sz5, hb.agI Try.underlying25 sz5, hb.apLd ag5, hb.agLd ag5, hb.eqnil Try.underlying25, hb.nenil Try.underlying25, hb.conv Try.underlying25 Try.underlying9 Try.underlying5, hc]
    simp only [Int.lt_irrefl, decide_false, Bool.or_false, Bool.not_eq_false', decide_eq_true_eq, and_true] at hb1
    rw [if_pos hb1.1]

theorem c_at (w₀ : World) (h : AHeap) (v : AVal) (bs : List UInt8) (hb : IsB w₀ h v bs) (i : Nat) :
    ACall Try.prog w₀ 12 [v, .int .i64 i] h (fun r h' => r = .int .u8 (bs.getD i 32).toNat ∧ h' = h) := by
  refine acall_intro (n := 13) (rs := [.tmp 4]) Try.func12 rfl rfl rfl rfl (Nat.le_of_ble_eq_true rfl) ?_
  simp only [initSlots]
  -- region 0  law.go:79
  refine awp_rseq [0, 1] (by rfl) fun K hK => ?_
  simp (decide := true) only [aOps_nil, ev, absV, absS, putD, Slots.put, Slots.get, Slots.keep, if_true, if_false, List.contains_cons, List.contains_nil, true_and, and_true, ↓ap_assign, pop_assign, hb.len Try.underlying25, hb.apI Try.underlying25 sz5, hb.agI Try.underlying25 sz5, hb.apLd ag5, hb.agLd ag5, hb.eqnil Try.underlying25, hb.nenil Try.underlying25, hb.conv Try.underlying25 Try.underlying9 Try.underlying5]
  repeat (with_reducible refine And.intro ?_ ?_; · first | trivial | omega | (intro hg; simp only [Bool.and_eq_true, Bool.or_eq_true, Bool.not_eq_true', Bool.and_eq_false_iff, Bool.or_eq_false_iff, Bool.not_eq_false', decide_eq_true_eq, decide_eq_false_iff_not, eqNil] at hg; omega))
  apply hK; clear hK K
  refine awp_seq ?_
  -- region 1  law.go:80
  refine awp_rseq [0, 1, 8] (by rfl) fun K hK => ?_
  simp (decide := true) only [aOps_nil, ev, absV, absS, putD, Slots.put, Slots.get, Slots.keep, if_true, if_false, List.contains_cons, List.contains_nil, true_and, and_true, ↓ap_move, pop_move, ↓ap_len, pop_len, pLen_slice Try.underlying25, pLen_nil Try.underlying25, ↓ap_binOp, pop_binOp, pBinX_int, pI_lss, hb.len Try.underlying25, hb.apI Try.underlying25 sz5, hb.agI Try.underlying25 sz5, hb.apLd ag5, hb.agLd ag5, hb.eqnil Try.underlying25, hb.nenil Try.underlying25, hb.conv Try.underlying25 Try.underlying9 Try.underlying5]
  repeat (with_reducible refine And.intro ?_ ?_; · first | trivial | omega | (intro hg; simp only [Bool.and_eq_true, Bool.or_eq_true, Bool.not_eq_true', Bool.and_eq_false_iff, Bool.or_eq_false_iff, Bool.not_eq_false', decide_eq_true_eq, decide_eq_false_iff_not, eqNil] at hg; omega))
  apply hK; clear hK K
  refine awp_cond (b := _) rfl (fun hb1 => ?_) (fun hb1 => ?_)
  · try simp only [decide_eq_true_eq, decide_eq_false_iff_not, Bool.not_eq_true', Bool.not_eq_false', Bool.and_eq_true, Bool.and_eq_false_iff, Bool.or_eq_true, Bool.or_eq_false_iff, Bool.true_eq, Bool.false_eq, reduceCtorEq] at hb1
    -- region 2  law.go:81
    refine awp_rseq [4] (by rfl) fun K hK => ?_
    simp (decide := true) only [aOps_nil, ev, absV, absS, putD, Slots.put, Slots.get, Slots.keep, if_true, if_false, List.contains_cons, List.contains_nil, true_and, and_true, ↓ap_move, pop_move, ↓ap_indexAddrL, apL_mk, pIndexAddr_slice Try.underlying25 sz5, ↓ap_loadL, pLoad_one ag5, ↓ap_assign, pop_assign, hb.len Try.underlying25, hb.apI Try.underlying25 sz5, hb.agI Try.underlying25 sz5, hb.apLd ag5, hb.agLd ag5, hb.eqnil Try.underlying25, hb.nenil Try.underlying25, hb.conv Try.underlying25 Try.underlying9 Try.underlying5]
    repeat (with_reducible refine And.intro ?_ ?_; · first | trivial | omega | (intro hg; simp only [Bool.and_eq_true, Bool.or_eq_true, Bool.not_eq_true', Bool.and_eq_false_iff, Bool.or_eq_false_iff, Bool.not_eq_false', decide_eq_true_eq, decide_eq_false_iff_not, eqNil] at hg; omega))
    apply hK; clear hK K
    refine awp_ret ?_
    try simp only [thenA_ret, inBlockA_ret]
    refine retA_ret _ (Sub.refl _) (resPre_tmp (resPre_nil)) ?_
    simp (decide := true) only [aOps_nil, ev, absV, absS, putD, Slots.put, Slots.get, Slots.keep, if_true, if_false, List.contains_cons, List.contains_nil, true_and, and_true, resOf_one, hb.len Try.underlying25, hb.apI Try.underlying25 sz5, hb.agI Try.underlying25 sz5, hb.apLd ag5, hb.agLd ag5, hb.eqnil Try.underlying25, hb.nenil Try.underlying25, hb.conv Try.underlying25 Try.underlying9 Try.underlying5]
    all_goals rw [Int.toNat_natCast, List.getD, List.getD, List.getElem?_eq_getElem (by omega)]; rfl
  · try simp only [decide_eq_true_eq, decide_eq_false_iff_not, Bool.not_eq_true', Bool.not_eq_false', Bool.and_eq_true, Bool.and_eq_false_iff, Bool.or_eq_true, Bool.or_eq_false_iff, Bool.true_eq, Bool.false_eq, reduceCtorEq] at hb1
    refine awp_skip ?_
    change Awp _ _ _ _ _ _ _
    -- region 3  law.go:83
    refine awp_rseq [4] (by rfl) fun K hK => ?_
    simp (decide := true) only [aOps_nil, ev, absV, absS, putD, Slots.put, Slots.get, Slots.keep, if_true, if_false, List.contains_cons, List.contains_nil, true_and, and_true, ↓ap_assign, pop_assign, hb.len Try.underlying25, hb.apI Try.underlying25 sz5, hb.agI Try.underlying25 sz5, hb.apLd ag5, hb.agLd ag5, hb.eqnil Try.underlying25, hb.nenil Try.underlying25, hb.conv Try.underlying25 Try.underlying9 Try.underlying5]
    repeat (with_reducible refine And.intro ?_ ?_; · first | trivial | omega | (intro hg; simp only [Bool.and_eq_true, Bool.or_eq_true, Bool.not_eq_true', Bool.and_eq_false_iff, Bool.or_eq_false_iff, Bool.not_eq_false', decide_eq_true_eq, decide_eq_false_iff_not, eqNil] at hg; omega))
    apply hK; clear hK K
    refine awp_ret ?_
    try simp only [thenA_ret, inBlockA_ret]
    refine retA_ret _ (Sub.refl _) (resPre_tmp (resPre_nil)) ?_
    simp (decide := true) only [aOps_nil, ev, absV, absS, putD, Slots.put, Slots.get, Slots.keep, if_true, if_false, List.contains_cons, List.contains_nil, true_and, and_true, resOf_one, hb.len Try.underlying25, hb.apI Try.underlying25 sz5, hb.agI Try.underlying25 sz5, hb.apLd ag5, hb.agLd ag5, hb.eqnil Try.underlying25, hb.nenil Try.underlying25, hb.conv Try.underlying25 Try.underlying9 Try.underlying5]
    all_goals rw [List.getD, List.getElem?_eq_none (by omega)]; rfl

theorem c_fillOk (w₀ : World) (h : AHeap) (v : AVal) (bs : List UInt8) (n : Int) (hb : IsB w₀ h v bs) (h0 : 0 ≤ n) (h1 : n ≤ 1048576) (h2 : bs ≠ [] ∨ n = 0) :
    ACall Try.prog w₀ 16 [v, .int .i64 n] h (fun x h' => ∃ k, h k = none ∧ x = .tuple [.slice (.own k) 0 n.toNat (.exact n.toNat), .int .i64 0] ∧ h' = h.set k ⟨byteCells (fillB bs n.toNat), 0⟩) := by
  refine (c_fill w₀ h v bs n hb).mono fun x h' hx => ?_
  rcases hx with ⟨e, _⟩ | ⟨e, _⟩ | ⟨e, _, e2, _⟩ | ⟨_, _, _, e⟩
  · omega
  · omega
  · rcases h2 with h2 | h2
    · exact absurd e2 h2
    · omega
  · exact e
theorem c_fillNil (w₀ : World) (h : AHeap) (n : Int) (h0 : 0 < n) (h1 : n ≤ 1048576) :
    ACall Try.prog w₀ 16 [.nilSlice, .int .i64 n] h (fun x h' => x = .tuple [.nilSlice, .int .i64 5] ∧ h' = h) := by
  refine (c_fill w₀ h _ [] n .nil).mono fun x h' hx => ?_
  rcases hx with ⟨e, _⟩ | ⟨e, _⟩ | ⟨_, _, _, e⟩ | ⟨_, _, e, _⟩
  · omega
  · omega
  · exact e
  · have := e rfl; omega
theorem c_fitOk (w₀ : World) (h : AHeap) (v : AVal) (bs : List UInt8) (n : Int) (left : Bool) (hb : IsB w₀ h v bs) (hl : bs.length ≤ 9223372036854775807) (h0 : 0 ≤ n) (h1 : n ≤ 1048576) :
    ACall Try.prog w₀ 13 [v, .int .i64 n, .bool left] h (fun x h' => ∃ k, h k = none ∧ x = .tuple [.slice (.own k) 0 n.toNat (.exact n.toNat), .int .i64 0] ∧ h' = h.set k ⟨byteCells (fitB bs n.toNat left), 0⟩) := by
  refine (c_fit w₀ h v bs n left hb hl).mono fun x h' hx => ?_
  rcases hx with ⟨e, _⟩ | ⟨e, _⟩ | ⟨_, _, e⟩
  · omega
  · omega
  · exact e
end Go.Proofs.Ytmnlmfiokbnhhaa
