/-
  Texts of this proof, joined: TkF, TkG, TkH.
  Conditions: none.
-/
import Derived.Test.YtmadddihphkmoaaDoorPb
import Derived.Test.YtmadddihphkmoaaDoorPc
import Derived.Lib.SlicesS
import Derived.Lib.IndexLaws
set_option linter.unusedSimpArgs false
set_option linter.unnecessarySimpa false
set_option linter.unusedVariables false
/-
  Contracts: peek, run, word, pictures, separator, skip, take of the scanner.
  Conditions: none.
-/
namespace Go.Proofs.YtmadddihphkmoaaDoor
open Go.AM
open Go.Proofs
open Go.Col
open Go.Tok
open Go.RowKit (Below)
set_option maxRecDepth 100000

def tokC (t : TokC) : List AVal := [.int .u8 t.kind.toNat, .str t.text, .int .i64 t.line, .int .i64 t.col, .bool t.left]
/-- A token that was read, and how many bytes it has, and the error. -/
def nxA (t : Nx) : AVal := .agg [.int .u8 t.kind.toNat, .str t.text, .int .i64 0, .int .i64 0, .bool false]
def nxR (t : Nx) : AVal := .tuple [nxA t, .int .i64 t.n, .int .i64 t.e]
theorem c_peek (w₀ : World) (h : AHeap) (kx : Nat) (lf : Bool) (s : Str) (mv tv : AVal) (i : Nat) (n : Int) (hk : h kx = some ⟨[.bool lf, .str s, mv, .int .i64 i, tv], 0⟩) (i1 : i ≤ 4611686018427387904) (n0 : -1 ≤ n) (n1 : n ≤ 2305843009213693952) :
    ACall Tryd.prog w₀ 64 [.ptr (.own kx) 0, .int .i64 n] h (fun v h' => v = .int .u8 (peekE s (i + n)).toNat ∧ h' = h) := by
  have rx := fun o => rd_own w₀ hk o
  refine acall_intro (n := 39) (rs := [.tmp 4]) Tryd.func64 rfl rfl rfl rfl (Nat.le_of_ble_eq_true rfl) ?_
  simp only [initSlots]
  -- region 0  tokens.go:31
  refine awp_rseq [0, 1] (by rfl) fun K hK => ?_
  simp (decide := true) only [aOps_nil, ev, absV, absS, putD, Slots.put, Slots.keep, if_true, if_false, true_and, ↓ap_assign, pop_assign, Nat.zero_add]
  repeat (with_reducible refine And.intro ?_ ?_; · first | trivial | omega | (intro hg; simp only [Bool.and_eq_true, Bool.or_eq_true, Bool.not_eq_true', Bool.and_eq_false_iff, Bool.or_eq_false_iff, Bool.not_eq_false', decide_eq_true_eq, decide_eq_false_iff_not, eqNil] at hg; omega) )
  apply hK; clear hK K
  refine awp_seq ?_
  -- region 1  tokens.go:32
  refine awp_dseq_all [0, 1, 26] mixed (by kernel_rfl) (by rfl) (by rfl) fun K hK => ?_
  simp (decide := true) only [aOps_nil, ev, absV, absS, putD, Slots.put, Slots.get, Slots.keep, if_true, if_false, true_and, ↓ap_move, pop_move, ↓ap_nilCheck, pop_nilCheck, pNil_ptr, ↓ap_fieldAddr, pop_fieldAddr, fa71_1, ↓ap_loadL, apL_mk, pLoad_one ag3, ↓ap_binOp, pop_binOp, isNilC_tmp, cond_false, pBinX_int, pI_add, isNilC_int, pI_lss, ↓ag_move, agP, agQ_some, nthDst, gKnown_bool, guardB_bool_false, implies_true, ↓ag_nilCheck, cv_nil, cp_nil, ↓ag_fieldAddr, cv_fieldAddr, cp_fieldAddr, ↓ag_loadL, agQL_some, agL_mk, agL_ld2, ↓ag_binOp, cv_binl, cv_binr, cp_binl, cp_binr, fa71_0, fa68_1, pLoad_one ag9, ↓ag_len, pop_len, pLen_str Tryd.underlying9, cv_len, cp_len, pI_geq, ↓ap_pick, pop_pick, pPick_bool, pickV_cond_r, pickV_or, List.getD_cons_zero, List.getD_cons_succ, Nat.zero_add, lv_int, lv_str, rx]
  try simp (disch := omega) only [wrap_i64]
  repeat (with_reducible refine And.intro ?_ ?_; · first | trivial | omega | (intro hg; simp only [Bool.and_eq_true, Bool.or_eq_true, Bool.not_eq_true', Bool.and_eq_false_iff, Bool.or_eq_false_iff, Bool.not_eq_false', decide_eq_true_eq, decide_eq_false_iff_not, eqNil] at hg; omega) )
  apply hK; clear hK K
  refine awp_cond (b := _) rfl (fun hb1 => ?_) (fun hb1 => ?_)
  · try simp only [decide_eq_true_eq, Bool.or_eq_true] at hb1
    skip
    -- region 2  tokens.go:33
    refine awp_rseq [4] (by rfl) fun K hK => ?_
    simp (decide := true) only [aOps_nil, ev, absV, absS, putD, Slots.put, Slots.keep, if_true, if_false, true_and, ↓ap_assign, pop_assign]
    repeat (with_reducible refine And.intro ?_ ?_; · first | trivial | omega | (intro hg; simp only [Bool.and_eq_true, Bool.or_eq_true, Bool.not_eq_true', Bool.and_eq_false_iff, Bool.or_eq_false_iff, Bool.not_eq_false', decide_eq_true_eq, decide_eq_false_iff_not, eqNil] at hg; omega) )
    apply hK; clear hK K
    refine awp_ret ?_
    try simp only [thenA_ret]
    refine retA_ret h (by repeat (first | exact Sub.refl _ | assumption | refine Sub.trans_set ?_ (by assumption))) (resPre_tmp (resPre_nil)) ?_
    simp (decide := true) only [Slots.get, if_true, and_true, resOf_one]
    rw [peekE_ge (by omega)]
    rfl
  · try simp only [decide_eq_false_iff_not, Bool.or_eq_false_iff] at hb1
    have hi : 0 ≤ (i : Int) + n ∧ (i : Int) + n < s.length := by omega
    refine awp_skip ?_
    change Awp _ _ _ _ _ _ _
    -- region 3  tokens.go:35
    refine awp_dseq_all [4] mixed (by kernel_rfl) (by rfl) (by rfl) fun K hK => ?_
    simp (decide := true) only [ev, putD, Slots.put, Slots.get, if_true, if_false, true_and, ↓ap_move, pop_move, ↓ap_nilCheck, pop_nilCheck, pNil_ptr, ↓ap_fieldAddr, pop_fieldAddr, fa71_0, fa68_1, ↓ap_loadL, apL_mk, pLoad_one ag9, fa71_1, pLoad_one ag3, ↓ap_binOp, pop_binOp, isNilC_tmp, cond_false, pBinX_int, pI_add, List.getD_cons_zero, List.getD_cons_succ, Nat.zero_add, lv_int, lv_str, rx]
    try simp (disch := omega) only [wrap_i64]
    try simp (decide := true) only [aOps_nil, ev, putD, Slots.put, Slots.get, Slots.keep, if_true, if_false, true_and, ↓ap_index, pop_index, pIndex_str Tryd.underlying9, ↓ap_assign, pop_assign]
    repeat (with_reducible refine And.intro ?_ ?_; · first | trivial | omega | (intro hg; simp only [Bool.and_eq_true, Bool.or_eq_true, Bool.not_eq_true', Bool.and_eq_false_iff, Bool.or_eq_false_iff, Bool.not_eq_false', decide_eq_true_eq, decide_eq_false_iff_not, eqNil] at hg; omega) )
    apply hK; clear hK K
    refine awp_ret ?_
    try simp only [thenA_ret, inBlockA_ret]
    refine retA_ret h (by repeat (first | exact Sub.refl _ | assumption | refine Sub.trans_set ?_ (by assumption))) (resPre_tmp (resPre_nil)) ?_
    simp (decide := true) only [Slots.get, if_true, and_true, resOf_one]
    unfold peekE
    rw [if_neg (by omega)]
theorem runE_next {s : Str} {i n : Nat} {p : UInt8 → Bool} (hn : n ≤ runE s i p) : n < runE s i p ↔ i + n < s.length ∧ p (s.getD (i + n) 0) = true := by
  constructor
  · intro h
    have h1 := runE_all (s := s) (p := p) (i := i) h n (Nat.lt_succ_self n)
    refine ⟨?_, h1⟩
    by_cases hi : i ≤ s.length
    · have := runE_le s i p hi
      omega
    · have : runE s i p = 0 := by rw [runE_step, if_neg (by omega)]
      omega
  · rintro ⟨h1, h2⟩
    by_cases e : n = runE s i p
    · have := runE_stop (s := s) (p := p) (f := s.length) (i := i) (by omega) (by omega)
      rw [← e, h2] at this
      cases this
    · omega
/-- What a function of a byte answers. -/
abbrev IsFn (w₀ : World) (f : FuncId) (p : UInt8 → Bool) : Prop := ∀ (g : AHeap) (b : UInt8), ACall Tryd.prog w₀ f [.int .u8 b.toNat] g (fun v h' => v = .bool (p b) ∧ h' = g)
theorem c_run (w₀ : World) (h : AHeap) (kx : Nat) (lf : Bool) (s : Str) (mv tv : AVal) (i k : Nat) (f : FuncId) (p : UInt8 → Bool) (hf : IsFn w₀ f p) (hk : h kx = some ⟨[.bool lf, .str s, mv, .int .i64 i, tv], 0⟩) (i1 : i ≤ 1099511627776) (k1 : k ≤ 1099511627776) (hs : s.length ≤ 1099511627776) :
    ACall Tryd.prog w₀ 91 [.ptr (.own kx) 0, .int .i64 k, .func f []] h (fun v h' => v = .int .i64 (runE s (i + k) p) ∧ h' = h) := by
  have rx := fun o => rd_own w₀ hk o
  have hrl := runE_len s (i + k) p
  refine acall_intro (n := 35) (rs := [.tmp 6]) Tryd.func91 rfl rfl rfl rfl (Nat.le_of_ble_eq_true rfl) ?_
  simp only [initSlots]
  -- region 0  tokens.go:39
  refine awp_rseq [0, 1, 2] (by rfl) fun K hK => ?_
  simp (decide := true) only [aOps_nil, ev, absV, absS, putD, Slots.put, Slots.keep, if_true, if_false, true_and, ↓ap_assign, pop_assign, Nat.zero_add, Nat.reduceAdd]
  repeat (with_reducible refine And.intro ?_ ?_; · first | trivial | omega | (intro hg; simp only [Bool.and_eq_true, Bool.or_eq_true, Bool.not_eq_true', Bool.and_eq_false_iff, Bool.or_eq_false_iff, Bool.not_eq_false', decide_eq_true_eq, decide_eq_false_iff_not, eqNil] at hg; omega) )
  apply hK; clear hK K
  -- region 1  tokens.go:40
  refine awp_rseq [0, 1, 2, 7] (by rfl) fun K hK => ?_
  simp (decide := true) only [aOps_nil, ev, absV, absS, putD, Slots.put, Slots.keep, if_true, if_false, true_and, ↓ap_assign, pop_assign]
  repeat (with_reducible refine And.intro ?_ ?_; · first | trivial | omega | (intro hg; simp only [Bool.and_eq_true, Bool.or_eq_true, Bool.not_eq_true', Bool.and_eq_false_iff, Bool.or_eq_false_iff, Bool.not_eq_false', decide_eq_true_eq, decide_eq_false_iff_not, eqNil] at hg; omega) )
  apply hK; clear hK K
  refine awp_seq ?_
  refine awp_block ?_
  refine awp_loopG [0, 1, 2, 7] (fun n : Nat => [(0, .ptr (.own kx) 0), (1, .int .i64 k), (2, .func f []), (7, .int .i64 n)]) (fun n : Nat => h) (fun n : Nat => n ≤ runE s (i + k) p) (fun n : Nat => runE s (i + k) p - n) 0 rfl (Sub.refl _) (Nat.zero_le _) ?_
  intro n hn
  have hnx := runE_next hn
  have hpk : ∀ q : (i : Int) + k + n < s.length, peekE s (i + ((k : Int) + n)) = s.getD (i + k + n) 0 := fun q => by
    rw [show (i : Int) + ((k : Int) + n) = ((i + k + n : Nat) : Int) by omega, peekE_lt (by omega)]
  refine awp_seq ?_
  -- region 2  tokens.go:41
  refine awp_dseq_any [0, 1, 2, 7, 31] mixed (by kernel_rfl) (by rfl) fun K hK => ?_
  simp (decide := true) only [ev, putD, Slots.put, Slots.get, if_true, if_false, true_and, ↓vp_move, pop_move, ↓vp_nilCheck, pop_nilCheck, pNil_ptr, ↓vp_fieldAddr, pop_fieldAddr, fa71_1, ↓vp_load, pop_load, pLoad_one ag3, ↓vp_binOp, pop_binOp, isNilC_tmp, cond_false, pBinX_int, pI_add, fa71_0, fa68_1, pLoad_one ag9, ↓vp_len, pop_len, pLen_str Tryd.underlying9, pI_lss, ↓vg_move, vgP, vgQ_some, nthDst, gKnown_bool, guardB_bool_true, implies_true, ↓vg_binOp, cv_binl, cv_binr, cp_binl, cp_binr, List.getD_cons_zero, List.getD_cons_succ, Nat.zero_add, lv_int, lv_str, rx]
  try simp (disch := omega) only [wrap_i64]
  repeat (with_reducible refine And.intro ?_ ?_; · first | trivial | omega | (intro hg; simp only [Bool.and_eq_true, Bool.or_eq_true, Bool.not_eq_true', Bool.and_eq_false_iff, Bool.or_eq_false_iff, Bool.not_eq_false', decide_eq_true_eq, decide_eq_false_iff_not, eqNil] at hg; omega) )
  refine vOps_gcall (V := .int .u8 (peekE s (i + ((k : Int) + n))).toNat) (f := _) (cap := _) (xs := _) (by first | rfl | (simp (decide := true) only [gv, nthDst, Slots.get, if_true, if_false, gKnown_cond, gKnown_bool])) (fun hg => ⟨rfl, ?_⟩) (fun hg => c_peek w₀ _ kx lf s mv tv i ((k : Int) + n) hk (by omega) (by omega) (by omega)) ?_
  · try simp (decide := true) only [gv, nthDst, Slots.get, if_true, if_false, guardB_bool_true] at hg
    simp (decide := true) only [evs, ev, Slots.get, if_true, if_false, hg, condV_true, List.append_nil, List.map_cons, List.map_nil]
  simp (decide := true) only [putD, Slots.put, Slots.get, if_true, if_false, gv, nthDst, guardB_bool_true]
  refine vOps_gcall (V := .bool (p (peekE s (i + ((k : Int) + n))))) (f := _) (cap := _) (xs := _) (by first | rfl | (simp (decide := true) only [gv, nthDst, Slots.get, if_true, if_false, gKnown_cond, gKnown_bool])) (fun hg => ⟨by (try simp (decide := true) only [gv, nthDst, Slots.get, if_true, if_false, guardB_bool_true] at hg); simp (decide := true) only [ev, Slots.get, if_true, if_false, hg, condV_true]; try rfl, ?_⟩) (fun hg => hf _ _) ?_
  · try simp (decide := true) only [gv, nthDst, Slots.get, if_true, if_false, guardB_bool_true] at hg
    simp (decide := true) only [evs, ev, Slots.get, if_true, if_false, hg, condV_true, List.append_nil, List.map_cons, List.map_nil]
  simp (decide := true) only [vOps_nil, ev, absV, absS, putD, Slots.put, Slots.get, Slots.keep, if_true, if_false, true_and, gv, nthDst, guardB_bool_true, ↓vp_pick, pop_pick, pPick_bool, pickV_cond_l, pickV_and]
  repeat (with_reducible refine And.intro ?_ ?_; · first | trivial | omega | (intro hg; simp only [Bool.and_eq_true, Bool.or_eq_true, Bool.not_eq_true', Bool.and_eq_false_iff, Bool.or_eq_false_iff, Bool.not_eq_false', decide_eq_true_eq, decide_eq_false_iff_not, eqNil] at hg; omega) )
  apply hK; clear hK K
  refine awp_cond (b := _) rfl (fun hb1 => ?_) (fun hb1 => ?_)
  · try simp only [decide_eq_true_eq, Bool.and_eq_true] at hb1
    have h1 : n < runE s (i + k) p := hnx.2 ⟨by omega, by rw [← hpk hb1.1]; exact hb1.2⟩
    refine awp_skip ?_
    change Awp _ _ _ _ _ _ _
    refine awp_block ?_
    -- region 3  tokens.go:42
    refine awp_r [0, 1, 2, 7] (by rfl) ?_
    simp (decide := true) only [aOps_nil, ev, absV, absS, putD, Slots.put, Slots.get, Slots.keep, if_true, if_false, true_and, ↓ap_move, pop_move, ↓ap_binOp, pop_binOp, isNilC_int, cond_false, pBinX_int, pI_add, ↓ap_assign, pop_assign]
    try simp (disch := omega) only [wrap_i64]
    repeat (with_reducible refine And.intro ?_ ?_; · first | trivial | omega | (intro hg; simp only [Bool.and_eq_true, Bool.or_eq_true, Bool.not_eq_true', Bool.and_eq_false_iff, Bool.or_eq_false_iff, Bool.not_eq_false', decide_eq_true_eq, decide_eq_false_iff_not, eqNil] at hg; omega) )
    try simp only [thenA_normal, inBlockA_normal]
    exact ⟨n + 1, rfl, Sub.refl _, h1, by omega⟩
  · try simp only [decide_eq_false_iff_not, Bool.and_eq_false_iff] at hb1
    refine awp_exit ?_
    change Awp _ _ _ _ _ _ _
    -- region 4  tokens.go:44
    refine awp_rseq [6] (by rfl) fun K hK => ?_
    simp (decide := true) only [aOps_nil, ev, putD, Slots.put, Slots.get, Slots.keep, if_true, if_false, true_and, ↓ap_move, pop_move, ↓ap_assign, pop_assign]
    repeat (with_reducible refine And.intro ?_ ?_; · first | trivial | omega | (intro hg; simp only [Bool.and_eq_true, Bool.or_eq_true, Bool.not_eq_true', Bool.and_eq_false_iff, Bool.or_eq_false_iff, Bool.not_eq_false', decide_eq_true_eq, decide_eq_false_iff_not, eqNil] at hg; omega) )
    apply hK; clear hK K
    refine awp_ret ?_
    try simp only [thenA_ret, inBlockA_ret]
    refine retA_ret h (by repeat (first | exact Sub.refl _ | assumption | refine Sub.trans_set ?_ (by assumption))) (resPre_tmp (resPre_nil)) ?_
    simp (decide := true) only [Slots.get, if_true, and_true, resOf_one]
    rw [show n = runE s (i + k) p by
      by_cases e : n < runE s (i + k) p
      · have := hnx.1 e
        have h2 : (i : Int) + k + n < s.length := by omega
        rcases hb1 with q | q
        · omega
        · rw [hpk h2, this.2] at q
          cases q
      · omega]
theorem c_sep (w₀ : World) (h : AHeap) (b : UInt8) : ACall Tryd.prog w₀ 65 [.int .u8 b.toNat] h (fun v h' => v = .bool (sepB b) ∧ h' = h) := by
  refine acall_intro (n := 9) (rs := [.tmp 2]) Tryd.func65 rfl rfl rfl rfl (Nat.le_of_ble_eq_true rfl) ?_
  simp only [initSlots]
  -- region 0  tokens.go:62
  refine awp_rseq [0] (by rfl) fun K hK => ?_
  simp (decide := true) only [aOps_nil, ev, absV, absS, putD, Slots.put, Slots.keep, if_true, if_false, true_and, ↓ap_assign, pop_assign]
  repeat (with_reducible refine And.intro ?_ ?_; · first | trivial | omega | (intro hg; simp only [Bool.and_eq_true, Bool.or_eq_true, Bool.not_eq_true', Bool.and_eq_false_iff, Bool.or_eq_false_iff, Bool.not_eq_false', decide_eq_true_eq, decide_eq_false_iff_not, eqNil] at hg; omega) )
  apply hK; clear hK K
  -- region 1  tokens.go:62
  refine awp_rseq [2] (by rfl) fun K hK => ?_
  simp (decide := true) only [aOps_nil, ev, absV, absS, putD, Slots.put, Slots.get, Slots.keep, if_true, if_false, true_and, ↓ap_move, pop_move, ↓ap_binOp, pop_binOp, isNilC_int, cond_false, pBinX_int, pI_eql, ↓ag_move, agP, agQ_some, nthDst, gKnown_bool, guardB_bool_false, implies_true, ↓ag_binOp, cv_binl, cp_binl, ↓ap_pick, pop_pick, pPick_bool, pickV_cond_r, pickV_or, ↓ap_assign, pop_assign]
  repeat (with_reducible refine And.intro ?_ ?_; · first | trivial | omega | (intro hg; simp only [Bool.and_eq_true, Bool.or_eq_true, Bool.not_eq_true', Bool.and_eq_false_iff, Bool.or_eq_false_iff, Bool.not_eq_false', decide_eq_true_eq, decide_eq_false_iff_not, eqNil] at hg; omega) )
  apply hK; clear hK K
  refine awp_ret ?_
  try simp only [thenA_ret, inBlockA_ret]
  refine retA_ret _ (Sub.refl _) (resPre_tmp (resPre_nil)) ?_
  simp (decide := true) only [Slots.get, if_true, and_true, resOf_one]
  have e1 : decide ((b.toNat : Int) = 44) = decide (b = 44) := decide_eq_decide.2 (iff_of_eq (u8_eq b 44))
  have e2 : decide ((b.toNat : Int) = 59) = decide (b = 59) := decide_eq_decide.2 (iff_of_eq (u8_eq b 59))
  unfold sepB
  rw [e1, e2]
theorem c_contains (w₀ : World) (h : AHeap) (v : AVal) (l : List Str) (x : Str) (hv : IsStrs w₀ h v l) (hn : l.length ≤ 140737488355328) :
    ACall Tryd.prog w₀ 101 [v, .str x] h (fun r h' => r = .bool (l.contains x) ∧ h' = h) := by
  intro φ vals w hr hvs
  simp only [VRs, VR] at hvs
  obtain ⟨u, vs', rfl, hu, u2, vs2, rfl, rfl, rfl⟩ := hvs
  have fin : ∀ {R : Ending → World → Prop}, Calls Tryd.prog 101 #[u, .string ⟨⟨x⟩⟩] w R → (∀ e w', R e w' → e = .returned (.bool (l.contains x)) ∧ w' = w) →
      Lands Tryd.prog 101 [u, .string ⟨⟨x⟩⟩].toArray w fun v w' => ∃ ψ y h', φ.le ψ ∧ HRel w₀ ψ h' w' ∧ VR ψ y v ∧ y = .bool (l.contains x) ∧ h' = h := fun hc hq =>
    .inl ⟨_, Tryd.func101, rfl, rfl, hc.mono fun e w' hR => ⟨_, (hq e w' hR).1, φ, .bool (l.contains x), h, φ.le_refl, hr.later (by rw [(hq e w' hR).2]; exact Below.refl _ _), rfl, rfl, rfl⟩⟩
  obtain ⟨xs, hxs⟩ : ∃ xs, xs = l.map fun s => [AVal.str s] := ⟨_, rfl⟩
  unfold IsStrs at hv
  rw [← hxs] at hv
  cases hv with
  | nil =>
    have e0 : l = [] := List.map_eq_nil_iff.1 hxs.symm
    subst e0
    simp only [VR] at hu
    subst hu
    exact fin (Tryd.slices_Contains_string_empty none 0 ⟨⟨x⟩⟩ w) fun e w' ⟨e1, e2⟩ => ⟨e1, e2⟩
  | mk lc o n c xs hn' hw hc hlv hcap =>
    subst hxs
    rw [List.length_map] at hn'
    subst hn'
    obtain ⟨a, cp, rfl, ha⟩ := VR_slice_addr hu
    by_cases h0 : l.length = 0
    · have e0 : l = [] := List.eq_nil_of_length_eq_zero h0
      subst e0
      exact fin (Tryd.slices_Contains_string_empty (some a) cp ⟨⟨x⟩⟩ w) fun e w' ⟨e1, e2⟩ => ⟨e1, e2⟩
    · have ha' := ha h0
      obtain ⟨us, u1, u2, u3⟩ := cells_read hr lc (l.length * 1) o a ha' (by rw [hc]; exact hlv)
      rw [hc, flat_strs] at u2
      have hus := VRs_strs u2
      have has := locAddr_spot ha'
      have hcell : ∀ j, j < (l.map fun x => (⟨⟨x⟩⟩ : ByteArray)).length → w.cell? ⟨a.block, a.off + j, none⟩ = some (.string ((l.map fun x => (⟨⟨x⟩⟩ : ByteArray)).getD j ByteArray.empty)) := fun j hj => by
        rw [List.length_map] at hj
        have := u3 j (.string ⟨⟨l[j]⟩⟩) (by rw [hus]; simp [hj])
        rw [has] at this
        rw [show (l.map fun x => (⟨⟨x⟩⟩ : ByteArray)).getD j ByteArray.empty = ⟨⟨l[j]⟩⟩ by simp [List.getD, hj]]
        by_cases hj0 : j = 0
        · subst hj0
          simpa [Addr.add] using this
        · simpa [Addr.add, hj0] using this
      have hj := Tryd.slices_Contains_string a.block a.off l.length cp (l.map fun x => (⟨⟨x⟩⟩ : ByteArray)) ⟨⟨x⟩⟩ w (by rw [List.length_map]; exact Nat.le_refl _) (by omega) hcell
      rw [← has] at hj
      refine fin hj fun e w' ⟨e1, e2⟩ => ⟨?_, e2⟩
      rw [e1, List.take_of_length_le (by rw [List.length_map]; exact Nat.le_refl _)]
      congr 2
      rw [Bool.eq_iff_iff, Lib.containsS_iff, List.mem_map, List.contains_iff_mem]
      constructor
      · rintro ⟨y, hy, e⟩
        have : y = x := congrArg (fun z : ByteArray => z.data.toList) e
        rwa [this] at hy
      · intro hy
        exact ⟨x, hy, rfl⟩
def badT : TokC := ⟨0, [], 0, 0, false⟩
theorem wordE_lo {l : List TokC} {n : Nat} {ws : List Str} (hn : 0 < n) (h : l.length < n) : wordE l n ws = false := by
  unfold wordE
  rw [List.getElem?_eq_none (by rw [List.length_reverse]; omega)]
theorem wordE_hi {l : List TokC} {n : Nat} {ws : List Str} (hn : 0 < n) (h : n ≤ l.length) : wordE l n ws = (decide ((l.getD (l.length - n) badT).kind = 1) && ws.contains (l.getD (l.length - n) badT).text) := by
  unfold wordE
  rw [List.getElem?_reverse (by omega), show l.length - 1 - (n - 1) = l.length - n by omega, List.getElem?_eq_getElem (by omega)]
  simp [List.getD, show l.length - n < l.length by omega]
theorem c_wordLo (w₀ : World) (h : AHeap) (kx : Nat) (lf : Bool) (s : Str) (mv tv : AVal) (i : Int) (l : List TokC) (n : Nat) (v : AVal) (hv : v.live = true) (hk : h kx = some ⟨[.bool lf, .str s, mv, .int .i64 i, tv], 0⟩) (ht : IsL w₀ h 5 tv (l.map tokC)) (hn : l.length < n) (hn' : n ≤ 1000000) :
    ACall Tryd.prog w₀ 88 [.ptr (.own kx) 0, .int .i64 n, v] h (fun r h' => r = .bool false ∧ h' = h) := by
  have rx := fun o => rd_own w₀ hk o
  have hlv := ht.live
  have hlen := ht.len Tryd.underlying23
  rw [List.length_map] at hlen
  have hneg : ¬ (0 ≤ (l.length : Int) - n) := by omega
  refine acall_intro (n := 40) (rs := [.tmp 6]) Tryd.func88 rfl rfl rfl rfl (Nat.le_of_ble_eq_true rfl) ?_
  simp only [initSlots]
  -- region 0  tokens.go:48
  refine awp_rseq [0, 1, 2] (by rfl) fun K hK => ?_
  simp (decide := true) only [aOps_nil, ev, absV, absS, putD, Slots.put, Slots.keep, if_true, if_false, true_and, ↓ap_assign, pop_assign, Nat.zero_add, Nat.reduceAdd]
  repeat (with_reducible refine And.intro ?_ ?_; · first | trivial | omega | (intro hg; simp only [Bool.and_eq_true, Bool.or_eq_true, Bool.not_eq_true', Bool.and_eq_false_iff, Bool.or_eq_false_iff, Bool.not_eq_false', decide_eq_true_eq, decide_eq_false_iff_not, eqNil] at hg; omega) )
  apply hK; clear hK K
  -- region 1  tokens.go:49
  refine awp_rseq [0, 2, 7] (by rfl) fun K hK => ?_
  simp (decide := true) only [aOps_nil, ev, putD, Slots.put, Slots.get, Slots.keep, if_true, if_false, true_and, ↓ap_move, pop_move, ↓ap_nilCheck, pop_nilCheck, pNil_ptr, ↓ap_fieldAddr, pop_fieldAddr, fa71_2, ↓ap_loadL, apL_mk, pLoad_one ag23, ↓ap_len, pop_len, ↓ap_binOp, pop_binOp, isNilC_tmp, cond_false, pBinX_int, pI_sub, ↓ap_assign, pop_assign, List.getD_cons_zero, List.getD_cons_succ, Nat.zero_add, rx, hlv, hlen]
  try simp (disch := omega) only [wrap_i64]
  repeat (with_reducible refine And.intro ?_ ?_; · first | trivial | omega | (intro hg; simp only [Bool.and_eq_true, Bool.or_eq_true, Bool.not_eq_true', Bool.and_eq_false_iff, Bool.or_eq_false_iff, Bool.not_eq_false', decide_eq_true_eq, decide_eq_false_iff_not, eqNil] at hg; omega) )
  apply hK; clear hK K
  -- region 2  tokens.go:50
  refine awp_rseq [6] (by kernel_rfl) fun K hK => ?_
  simp (decide := true) only [ev, absV, absS, putD, Slots.put, Slots.get, if_true, if_false, true_and, ↓ap_move, pop_move, ↓ap_binOp, pop_binOp, isNilC_int, cond_false, pBinX_int, pI_geq, ↓ag_move, agP, agQ_some, nthDst, gKnown_bool, guardB_bool_true, implies_true, decide_false, condV_false, false_implies, pickV_false, agL_deadF, ↓ag_nilCheck, pop_nilCheck, ↓ag_fieldAddr, pop_fieldAddr, ↓ag_loadL, agQL_some, ↓ag_indexAddrL, ↓ag_binOp, ↓ap_pick, pop_pick, pPick_bool, hneg]
  repeat (with_reducible refine And.intro ?_ ?_; · first | trivial | omega | (intro hg; simp only [Bool.and_eq_true, Bool.or_eq_true, Bool.not_eq_true', Bool.and_eq_false_iff, Bool.or_eq_false_iff, Bool.not_eq_false', decide_eq_true_eq, decide_eq_false_iff_not, eqNil] at hg; omega) )
  first
  | (refine aOps_yes (by rfl) ?_; refine aOps_callV (V := _) (by rfl) (by rfl) (?_) ?_)
  | (refine aOps_no (by rfl) (by rfl) ?_)
  | (refine aOps_gcall (V := _) (f := _) (cap := _) (xs := _) (by first | rfl | (simp (decide := true) only [gv, nthDst, Slots.get, if_true, if_false, gKnown_cond, gKnown_bool])) (fun hg => ⟨rfl, ?_⟩) (fun hg => ?_) ?_; · (simp (decide := true) only [gv, nthDst, putD, Slots.put, Slots.get, if_true, if_false, guardB_bool_true, guardB_bool_false, guardB_cond, Bool.not_not] at hg; simp (decide := true) only [evs, ev, putD, Slots.put, Slots.get, if_true, if_false, hg, condV_true, List.append_nil, List.map_cons, List.map_nil, absV, absS] <;> try rfl))
  simp (decide := true) only [aOps_nil, ev, absV, absS, putD, Slots.put, Slots.get, Slots.keep, if_true, if_false, true_and, ↓ap_pick, pop_pick, pPick_bool, ↓ap_assign, pop_assign]
  repeat (with_reducible refine And.intro ?_ ?_; · first | trivial | omega | (intro hg; simp only [Bool.and_eq_true, Bool.or_eq_true, Bool.not_eq_true', Bool.and_eq_false_iff, Bool.or_eq_false_iff, Bool.not_eq_false', decide_eq_true_eq, decide_eq_false_iff_not, eqNil] at hg; omega) )
  apply hK; clear hK K
  refine awp_ret ?_
  try simp only [thenA_ret, inBlockA_ret]
  refine retA_ret h (by repeat (first | exact Sub.refl _ | assumption | refine Sub.trans_set ?_ (by assumption))) (resPre_tmp (resPre_nil)) ?_
  simp (decide := true) only [Slots.get, if_true, and_true, resOf_one]
  all_goals first | rfl | exact ⟨rfl, rfl⟩ | (simp (decide := true) only [if_true, if_false, *]; done) | (trace_state; fail)
end Go.Proofs.YtmadddihphkmoaaDoor

/-
  Contracts: word, pictures, skip, take of the scanner.
  Conditions: none.
-/
namespace Go.Proofs.YtmadddihphkmoaaDoor
open Go.AM
open Go.Proofs
open Go.Col
open Go.Tok
open Go.RowKit (Below)
set_option maxRecDepth 100000

theorem c_peek0 (w₀ : World) (h : AHeap) (kx : Nat) (lf : Bool) (s : Str) (mv tv : AVal) (i : Nat) (hk : h kx = some ⟨[.bool lf, .str s, mv, .int .i64 i, tv], 0⟩) (i1 : i ≤ 4611686018427387904) :
    ACall Tryd.prog w₀ 64 [.ptr (.own kx) 0, .int .i64 0] h (fun v h' => v = .int .u8 (peekE s i).toNat ∧ h' = h) := by
  have := c_peek w₀ h kx lf s mv tv i 0 hk i1 (by omega) (by omega)
  rwa [Int.add_zero] at this
theorem c_run0 (w₀ : World) (h : AHeap) (kx : Nat) (lf : Bool) (s : Str) (mv tv : AVal) (i : Nat) (f : FuncId) (p : UInt8 → Bool) (hf : IsFn w₀ f p) (hk : h kx = some ⟨[.bool lf, .str s, mv, .int .i64 i, tv], 0⟩) (i1 : i ≤ 1099511627776) (hs : s.length ≤ 1099511627776) :
    ACall Tryd.prog w₀ 91 [.ptr (.own kx) 0, .int .i64 0, .func f []] h (fun v h' => v = .int .i64 (runE s i p) ∧ h' = h) := by
  have := c_run w₀ h kx lf s mv tv i 0 f p hf hk i1 (by omega) hs
  rwa [Nat.add_zero] at this
theorem c_wordHi (w₀ : World) (h : AHeap) (kx : Nat) (lf : Bool) (s : Str) (mv tv : AVal) (i : Int) (l : List TokC) (n : Nat) (v : AVal) (ws : List Str) (hv : IsStrs w₀ h v ws) (hws : ws.length ≤ 1000) (hk : h kx = some ⟨[.bool lf, .str s, mv, .int .i64 i, tv], 0⟩) (ht : IsL w₀ h 5 tv (l.map tokC)) (hn0 : 0 < n) (hn : n ≤ l.length) (hl : l.length ≤ 1099511627776) :
    ACall Tryd.prog w₀ 88 [.ptr (.own kx) 0, .int .i64 n, v] h (fun r h' => r = .bool (wordE l n ws) ∧ h' = h) := by
  have rx := fun o => rd_own w₀ hk o
  have hvl := hv.live
  obtain ⟨lc, o, c, e⟩ := ht.open (fun e => by rw [List.map_eq_nil_iff] at e; subst e; simp at hn; omega)
  rw [List.length_map] at e
  subst e
  have hi : l.length - n < l.length := by omega
  have he := ht.elem (i := l.length - n) (by rw [List.length_map]; exact hi)
  rw [getD_map badT hi] at he
  simp only [cellsAt, tokC, List.cons.injEq, and_true] at he
  obtain ⟨e0, e1, e2, e3, e4⟩ := he
  have hpos : (0 ≤ (l.length : Int) - n) := by omega
  have hix : ((l.length : Int) - n).toNat = l.length - n := by omega
  rw [wordE_hi hn0 hn]
  obtain ⟨t, htt⟩ : ∃ t, t = l.getD (l.length - n) badT := ⟨_, rfl⟩
  rw [← htt] at e0 e1 ⊢
  have ek : decide ((t.kind.toNat : Int) = 1) = decide (t.kind = 1) := decide_eq_decide.2 (iff_of_eq (u8_eq t.kind 1))
  refine acall_intro (n := 40) (rs := [.tmp 6]) Tryd.func88 rfl rfl rfl rfl (Nat.le_of_ble_eq_true rfl) ?_
  simp only [initSlots]
  -- region 0  tokens.go:48
  refine awp_rseq [0, 1, 2] (by rfl) fun K hK => ?_
  simp (decide := true) only [aOps_nil, ev, absV, absS, putD, Slots.put, Slots.keep, if_true, if_false, true_and, ↓ap_assign, pop_assign, Nat.zero_add, Nat.reduceAdd]
  repeat (with_reducible refine And.intro ?_ ?_; · first | trivial | omega | (intro hg; simp only [Bool.and_eq_true, Bool.or_eq_true, Bool.not_eq_true', Bool.and_eq_false_iff, Bool.or_eq_false_iff, Bool.not_eq_false', decide_eq_true_eq, decide_eq_false_iff_not, eqNil] at hg; omega) )
  apply hK; clear hK K
  -- region 1  tokens.go:49
  refine awp_rseq [0, 2, 7] (by rfl) fun K hK => ?_
  simp (decide := true) only [aOps_nil, ev, putD, Slots.put, Slots.get, Slots.keep, if_true, if_false, true_and, ↓ap_move, pop_move, ↓ap_nilCheck, pop_nilCheck, pNil_ptr, ↓ap_fieldAddr, pop_fieldAddr, fa71_2, ↓ap_loadL, apL_mk, pLoad_one ag23, ↓ap_len, pop_len, pLen_slice Tryd.underlying23, ↓ap_binOp, pop_binOp, isNilC_tmp, cond_false, pBinX_int, pI_sub, ↓ap_assign, pop_assign, List.getD_cons_zero, List.getD_cons_succ, Nat.zero_add, lv_slice, rx]
  try simp (disch := omega) only [wrap_i64]
  repeat (with_reducible refine And.intro ?_ ?_; · first | trivial | omega | (intro hg; simp only [Bool.and_eq_true, Bool.or_eq_true, Bool.not_eq_true', Bool.and_eq_false_iff, Bool.or_eq_false_iff, Bool.not_eq_false', decide_eq_true_eq, decide_eq_false_iff_not, eqNil] at hg; omega) )
  apply hK; clear hK K
  -- region 2  tokens.go:50
  refine awp_rseq [6] (by kernel_rfl) fun K hK => ?_
  simp (decide := true) only [ev, absV, absS, putD, Slots.put, Slots.get, if_true, if_false, true_and, ↓ap_move, pop_move, ↓ap_binOp, pop_binOp, isNilC_int, cond_false, pBinX_int, pI_geq, ↓ag_move, agP, agQ_some, nthDst, gKnown_bool, guardB_bool_true, implies_true, decide_true, condV_true, forall_const, Bool.true_and, ↓ag_nilCheck, pop_nilCheck, pNil_ptr, cv_nil, cp_nil, ↓ag_fieldAddr, pop_fieldAddr, fa71_2, cv_fieldAddr, cp_fieldAddr, ↓ag_loadL, agQL_some, agL_mk, agL_ld1, pLoad_one ag23, ↓ag_indexAddrL, agL_il1, agL_ir1, pIndexAddr_slice Tryd.underlying23 sz35, fa35_0, pLoad_one ag33, ↓ag_binOp, pI_eql, ↓ap_pick, pop_pick, pPick_bool, pickV_and, fa35_1, pLoad_one ag9, List.getD_cons_zero, List.getD_cons_succ, Nat.zero_add, lv_int, lv_str, lv_slice, rx, hpos, hix, Nat.add_zero, e0, e1, ek]
  repeat (with_reducible refine And.intro ?_ ?_; · first | trivial | omega | (intro hg; simp only [Bool.and_eq_true, Bool.or_eq_true, Bool.not_eq_true', Bool.and_eq_false_iff, Bool.or_eq_false_iff, Bool.not_eq_false', decide_eq_true_eq, decide_eq_false_iff_not, eqNil] at hg; omega) )
  first
  | (refine aOps_yes (by rfl) ?_; refine aOps_callV (V := .bool (ws.contains t.text)) (by rfl) (by rfl) (c_contains w₀ _ v ws t.text hv (by omega)) ?_)
  | (refine aOps_no (by rfl) (by rfl) ?_)
  | (refine aOps_gcall (V := .bool (ws.contains t.text)) (f := _) (cap := _) (xs := _) (by first | rfl | (simp (decide := true) only [gv, nthDst, Slots.get, if_true, if_false, gKnown_cond, gKnown_bool])) (fun hg => ⟨rfl, ?_⟩) (fun hg => c_contains w₀ _ v ws t.text hv (by omega)) ?_; · (simp (decide := true) only [gv, nthDst, Slots.get, if_true, if_false, guardB_bool_true] at hg; simp (decide := true) only [evs, ev, Slots.get, if_true, if_false, hg, condV_true, List.append_nil, List.map_cons, List.map_nil] <;> try rfl))
  simp (decide := true) only [aOps_nil, ev, absV, absS, putD, Slots.put, Slots.get, Slots.keep, if_true, if_false, true_and, gv, nthDst, guardB_bool_true, ↓ap_pick, pop_pick, pPick_bool, pickV_cond_l, pickV_and, ↓ap_assign, pop_assign]
  repeat (with_reducible refine And.intro ?_ ?_; · first | trivial | omega | (intro hg; simp only [Bool.and_eq_true, Bool.or_eq_true, Bool.not_eq_true', Bool.and_eq_false_iff, Bool.or_eq_false_iff, Bool.not_eq_false', decide_eq_true_eq, decide_eq_false_iff_not, eqNil] at hg; omega) )
  apply hK; clear hK K
  refine awp_ret ?_
  try simp only [thenA_ret, inBlockA_ret]
  refine retA_ret h (by repeat (first | exact Sub.refl _ | assumption | refine Sub.trans_set ?_ (by assumption))) (resPre_tmp (resPre_nil)) ?_
  simp (decide := true) only [Slots.get, if_true, and_true, resOf_one]
  skip
theorem c_word (w₀ : World) (h : AHeap) (kx : Nat) (lf : Bool) (s : Str) (mv tv : AVal) (i : Int) (l : List TokC) (n : Nat) (v : AVal) (ws : List Str) (hv : IsStrs w₀ h v ws) (hws : ws.length ≤ 1000) (hk : h kx = some ⟨[.bool lf, .str s, mv, .int .i64 i, tv], 0⟩) (ht : IsL w₀ h 5 tv (l.map tokC)) (hn0 : 0 < n) (hn1 : n ≤ 1000) (hl : l.length ≤ 1099511627776) :
    ACall Tryd.prog w₀ 88 [.ptr (.own kx) 0, .int .i64 n, v] h (fun r h' => r = .bool (wordE l n ws) ∧ h' = h) := by
  by_cases hn : n ≤ l.length
  · exact c_wordHi w₀ h kx lf s mv tv i l n v ws hv hws hk ht hn0 hn hl
  · rw [wordE_lo hn0 (by omega)]
    exact c_wordLo w₀ h kx lf s mv tv i l n v hv.live hk ht (by omega) (by omega)
theorem strsOwn {w₀ : World} {h : AHeap} {k : Nat} {l : List Str} (hk : h k = some ⟨l.map AVal.str, 0⟩) : IsStrs w₀ h (.slice (.own k) 0 l.length (.exact l.length)) l := by
  have := IsL.own (w₀ := w₀) (es := 1) (xs := l.map fun s => [AVal.str s]) hk (by simp) (by rw [flat_strs]) (by rw [allLive_flatten]; intro x hx; obtain ⟨y, _, rfl⟩ := List.mem_map.1 hx; rfl) (.exact l.length) (by simp)
  rw [List.length_map] at this
  exact this
theorem c_pictures1 (w₀ : World) (h : AHeap) (kx : Nat) (lf : Bool) (s : Str) (mv tv : AVal) (i : Int) (l : List TokC) (hk : h kx = some ⟨[.bool lf, .str s, mv, .int .i64 i, tv], 0⟩) (ht : IsL w₀ h 5 tv (l.map tokC)) (hl : l.length ≤ 1099511627776) (hq : wordE l 1 [IS] = true) :
    ACall Tryd.prog w₀ 63 [.ptr (.own kx) 0] h (fun r h' => r = .tuple [.bool (picE l).1, .bool (picE l).2] ∧ h' = h) := by
  refine acall_intro (n := 15) (rs := [.tmp 2, .tmp 3]) Tryd.func63 rfl rfl rfl rfl (Nat.le_of_ble_eq_true rfl) ?_
  simp only [initSlots]
  -- region 0  tokens.go:54
  refine awp_rseq [0] (by rfl) fun K hK => ?_
  simp (decide := true) only [aOps_nil, ev, absV, absS, putD, Slots.put, Slots.keep, if_true, if_false, true_and, ↓ap_assign, pop_assign]
  repeat (with_reducible refine And.intro ?_ ?_; · first | trivial | omega | (intro hg; simp only [Bool.and_eq_true, Bool.or_eq_true, Bool.not_eq_true', Bool.and_eq_false_iff, Bool.or_eq_false_iff, Bool.not_eq_false', decide_eq_true_eq, decide_eq_false_iff_not, eqNil] at hg; omega) )
  apply hK; clear hK K
  refine awp_seq ?_
  -- region 1  tokens.go:55
  refine awp_rseq [0, 6] (by rfl) fun K hK => ?_
  simp (decide := true) only [ev, putD, Slots.put, Slots.get, if_true, if_false, true_and, ↓ap_move, pop_move]
  repeat (with_reducible refine And.intro ?_ ?_; · first | trivial | omega | (intro hg; simp only [Bool.and_eq_true, Bool.or_eq_true, Bool.not_eq_true', Bool.and_eq_false_iff, Bool.or_eq_false_iff, Bool.not_eq_false', decide_eq_true_eq, decide_eq_false_iff_not, eqNil] at hg; omega) )
  refine aOps_buildSlice (cs := [.str PIC, .str PICTURE]) (by kernel_rfl) fun k1q1 hk1q1 => ?_
  try have hf_1q1 : h k1q1 = none := by first | assumption | (simp only [AHeap.set_none] at hk1q1; simp only [hk1q1])
  refine aOps_callV (V := .bool (wordE l 1 [PIC, PICTURE])) (by rfl) (by rfl) (c_word w₀ _ kx lf s mv tv i l 1 _ [PIC, PICTURE] (strsOwn (l := [PIC, PICTURE]) (AHeap.set_same _ _ _)) (by decide) ((Sub.set hk1q1) _ _ hk) (ht.mono (Sub.set hk1q1)) (by decide) (by decide) hl) ?_
  simp (decide := true) only [aOps_nil, putD, Slots.put, Slots.keep, if_true, if_false]
  repeat (with_reducible refine And.intro ?_ ?_; · first | trivial | omega | (intro hg; simp only [Bool.and_eq_true, Bool.or_eq_true, Bool.not_eq_true', Bool.and_eq_false_iff, Bool.or_eq_false_iff, Bool.not_eq_false', decide_eq_true_eq, decide_eq_false_iff_not, eqNil] at hg; omega) )
  apply hK; clear hK K
  refine awp_cond (b := _) rfl (fun hb1 => ?_) (fun hb1 => ?_)
  · try simp only [decide_eq_true_eq, decide_eq_false_iff_not, Bool.not_eq_true', Bool.not_eq_false', Bool.and_eq_true, Bool.and_eq_false_iff, Bool.or_eq_true, Bool.or_eq_false_iff, Bool.true_eq, Bool.false_eq, reduceCtorEq] at hb1
    -- region 2  tokens.go:56
    refine awp_rseq [2, 3] (by rfl) fun K hK => ?_
    simp (decide := true) only [aOps_nil, ev, absV, absS, putD, Slots.put, Slots.keep, if_true, if_false, true_and, ↓ap_assign, pop_assign]
    repeat (with_reducible refine And.intro ?_ ?_; · first | trivial | omega | (intro hg; simp only [Bool.and_eq_true, Bool.or_eq_true, Bool.not_eq_true', Bool.and_eq_false_iff, Bool.or_eq_false_iff, Bool.not_eq_false', decide_eq_true_eq, decide_eq_false_iff_not, eqNil] at hg; omega) )
    apply hK; clear hK K
    refine awp_ret ?_
    try simp only [thenA_ret]
    refine retA_ret h (by repeat (first | exact Sub.refl _ | assumption | refine Sub.trans_set ?_ (by assumption))) (resPre_tmp (resPre_tmp (resPre_nil))) ?_
    simp (decide := true) only [Slots.get, if_true, if_false, and_true, resOf_two]
    unfold picE
    rw [if_pos hb1]
  · try simp only [decide_eq_true_eq, decide_eq_false_iff_not, Bool.not_eq_true', Bool.not_eq_false', Bool.and_eq_true, Bool.and_eq_false_iff, Bool.or_eq_true, Bool.or_eq_false_iff, Bool.true_eq, Bool.false_eq, reduceCtorEq] at hb1
    have hs1 : Sub h (h.set k1q1 ⟨[.str PIC, .str PICTURE], 0⟩) := Sub.set hk1q1
    refine awp_skip ?_
    change Awp _ _ _ _ _ _ _
    -- region 3  tokens.go:58
    refine awp_rseq [2, 3] (by rfl) fun K hK => ?_
    simp (decide := true) only [ev, putD, Slots.put, Slots.get, if_true, if_false, true_and, ↓ap_move, pop_move]
    repeat (with_reducible refine And.intro ?_ ?_; · first | trivial | omega | (intro hg; simp only [Bool.and_eq_true, Bool.or_eq_true, Bool.not_eq_true', Bool.and_eq_false_iff, Bool.or_eq_false_iff, Bool.not_eq_false', decide_eq_true_eq, decide_eq_false_iff_not, eqNil] at hg; omega) )
    refine aOps_buildSlice (cs := [.str IS]) (by kernel_rfl) fun k3q1 hk3q1 => ?_
    have ne_3q1_1q1 : k3q1 ≠ k1q1 := by simp only [AHeap.set_none] at hk3q1; simp only [hk3q1, ne_eq, not_false_eq_true]
    try have hf_3q1 : h k3q1 = none := by first | assumption | (simp only [AHeap.set_none] at hk3q1; simp only [hk3q1])
    refine aOps_callV (V := .bool true) (by rfl) (by rfl) (by rw [← hq]; exact c_word w₀ _ kx lf s mv tv i l 1 _ [IS] (strsOwn (l := [IS]) (AHeap.set_same _ _ _)) (by decide) ((hs1.trans (Sub.set hk3q1)) _ _ hk) (ht.mono (hs1.trans (Sub.set hk3q1))) (by decide) (by decide) hl) ?_
    simp (decide := true) only [ev, putD, Slots.put, Slots.get, if_true, if_false, true_and, ↓ap_move, pop_move, ↓ag_move, agP, agQ_some, nthDst, gKnown_bool, guardB_bool_true, implies_true, condV_true, condV_true]
    repeat (with_reducible refine And.intro ?_ ?_; · first | trivial | omega | (intro hg; simp only [Bool.and_eq_true, Bool.or_eq_true, Bool.not_eq_true', Bool.and_eq_false_iff, Bool.or_eq_false_iff, Bool.not_eq_false', decide_eq_true_eq, decide_eq_false_iff_not, eqNil] at hg; omega) )
    refine aOps_yes (by rfl) ?_
    refine aOps_buildSlice (cs := [.str PIC, .str PICTURE]) (by kernel_rfl) fun k3q5 hk3q5 => ?_
    have ne_3q5_1q1 : k3q5 ≠ k1q1 := by simp only [AHeap.set_none] at hk3q5; simp only [hk3q5, ne_eq, not_false_eq_true]
    have ne_3q5_3q1 : k3q5 ≠ k3q1 := by simp only [AHeap.set_none] at hk3q5; simp only [hk3q5, ne_eq, not_false_eq_true]
    try have hf_3q5 : h k3q5 = none := by first | assumption | (simp only [AHeap.set_none] at hk3q5; simp only [hk3q5])
    refine aOps_yes (by rfl) ?_
    refine aOps_callV (V := .bool (wordE l 2 [PIC, PICTURE])) (by rfl) (by rfl) (c_word w₀ _ kx lf s mv tv i l 2 _ [PIC, PICTURE] (strsOwn (l := [PIC, PICTURE]) (AHeap.set_same _ _ _)) (by decide) (((hs1.trans (Sub.set hk3q1)).trans (Sub.set hk3q5)) _ _ hk) (ht.mono ((hs1.trans (Sub.set hk3q1)).trans (Sub.set hk3q5))) (by decide) (by decide) hl) ?_
    simp (decide := true) only [aOps_nil, ev, absV, absS, putD, Slots.put, Slots.get, Slots.keep, if_true, if_false, true_and, ↓ap_pick, pop_pick, pPick_bool, ↓ap_assign, pop_assign, pickV_bool, cond_true]
    repeat (with_reducible refine And.intro ?_ ?_; · first | trivial | omega | (intro hg; simp only [Bool.and_eq_true, Bool.or_eq_true, Bool.not_eq_true', Bool.and_eq_false_iff, Bool.or_eq_false_iff, Bool.not_eq_false', decide_eq_true_eq, decide_eq_false_iff_not, eqNil] at hg; omega) )
    apply hK; clear hK K
    refine awp_ret ?_
    try simp only [thenA_ret, inBlockA_ret]
    refine retA_ret h (by repeat (first | exact Sub.refl _ | assumption | refine Sub.trans_set ?_ (by assumption))) (resPre_tmp (resPre_tmp (resPre_nil))) ?_
    simp (decide := true) only [Slots.get, if_true, if_false, and_true, resOf_two]
    unfold picE
    rw [if_neg (by rw [hb1]; decide), hq]
    rfl
theorem c_pictures0 (w₀ : World) (h : AHeap) (kx : Nat) (lf : Bool) (s : Str) (mv tv : AVal) (i : Int) (l : List TokC) (hk : h kx = some ⟨[.bool lf, .str s, mv, .int .i64 i, tv], 0⟩) (ht : IsL w₀ h 5 tv (l.map tokC)) (hl : l.length ≤ 1099511627776) (hq : wordE l 1 [IS] = false) :
    ACall Tryd.prog w₀ 63 [.ptr (.own kx) 0] h (fun r h' => r = .tuple [.bool (picE l).1, .bool (picE l).2] ∧ h' = h) := by
  refine acall_intro (n := 15) (rs := [.tmp 2, .tmp 3]) Tryd.func63 rfl rfl rfl rfl (Nat.le_of_ble_eq_true rfl) ?_
  simp only [initSlots]
  -- region 0  tokens.go:54
  refine awp_rseq [0] (by rfl) fun K hK => ?_
  simp (decide := true) only [aOps_nil, ev, absV, absS, putD, Slots.put, Slots.keep, if_true, if_false, true_and, ↓ap_assign, pop_assign]
  repeat (with_reducible refine And.intro ?_ ?_; · first | trivial | omega | (intro hg; simp only [Bool.and_eq_true, Bool.or_eq_true, Bool.not_eq_true', Bool.and_eq_false_iff, Bool.or_eq_false_iff, Bool.not_eq_false', decide_eq_true_eq, decide_eq_false_iff_not, eqNil] at hg; omega) )
  apply hK; clear hK K
  refine awp_seq ?_
  -- region 1  tokens.go:55
  refine awp_rseq [0, 6] (by rfl) fun K hK => ?_
  simp (decide := true) only [ev, putD, Slots.put, Slots.get, if_true, if_false, true_and, ↓ap_move, pop_move]
  repeat (with_reducible refine And.intro ?_ ?_; · first | trivial | omega | (intro hg; simp only [Bool.and_eq_true, Bool.or_eq_true, Bool.not_eq_true', Bool.and_eq_false_iff, Bool.or_eq_false_iff, Bool.not_eq_false', decide_eq_true_eq, decide_eq_false_iff_not, eqNil] at hg; omega) )
  refine aOps_buildSlice (cs := [.str PIC, .str PICTURE]) (by kernel_rfl) fun k1q1 hk1q1 => ?_
  try have hf_1q1 : h k1q1 = none := by first | assumption | (simp only [AHeap.set_none] at hk1q1; simp only [hk1q1])
  refine aOps_callV (V := .bool (wordE l 1 [PIC, PICTURE])) (by rfl) (by rfl) (c_word w₀ _ kx lf s mv tv i l 1 _ [PIC, PICTURE] (strsOwn (l := [PIC, PICTURE]) (AHeap.set_same _ _ _)) (by decide) ((Sub.set hk1q1) _ _ hk) (ht.mono (Sub.set hk1q1)) (by decide) (by decide) hl) ?_
  simp (decide := true) only [aOps_nil, putD, Slots.put, Slots.keep, if_true, if_false]
  repeat (with_reducible refine And.intro ?_ ?_; · first | trivial | omega | (intro hg; simp only [Bool.and_eq_true, Bool.or_eq_true, Bool.not_eq_true', Bool.and_eq_false_iff, Bool.or_eq_false_iff, Bool.not_eq_false', decide_eq_true_eq, decide_eq_false_iff_not, eqNil] at hg; omega) )
  apply hK; clear hK K
  refine awp_cond (b := _) rfl (fun hb1 => ?_) (fun hb1 => ?_)
  · try simp only [decide_eq_true_eq, decide_eq_false_iff_not, Bool.not_eq_true', Bool.not_eq_false', Bool.and_eq_true, Bool.and_eq_false_iff, Bool.or_eq_true, Bool.or_eq_false_iff, Bool.true_eq, Bool.false_eq, reduceCtorEq] at hb1
    -- region 2  tokens.go:56
    refine awp_rseq [2, 3] (by rfl) fun K hK => ?_
    simp (decide := true) only [aOps_nil, ev, absV, absS, putD, Slots.put, Slots.keep, if_true, if_false, true_and, ↓ap_assign, pop_assign]
    repeat (with_reducible refine And.intro ?_ ?_; · first | trivial | omega | (intro hg; simp only [Bool.and_eq_true, Bool.or_eq_true, Bool.not_eq_true', Bool.and_eq_false_iff, Bool.or_eq_false_iff, Bool.not_eq_false', decide_eq_true_eq, decide_eq_false_iff_not, eqNil] at hg; omega) )
    apply hK; clear hK K
    refine awp_ret ?_
    try simp only [thenA_ret]
    refine retA_ret h (by repeat (first | exact Sub.refl _ | assumption | refine Sub.trans_set ?_ (by assumption))) (resPre_tmp (resPre_tmp (resPre_nil))) ?_
    simp (decide := true) only [Slots.get, if_true, if_false, and_true, resOf_two]
    unfold picE
    rw [if_pos hb1]
  · try simp only [decide_eq_true_eq, decide_eq_false_iff_not, Bool.not_eq_true', Bool.not_eq_false', Bool.and_eq_true, Bool.and_eq_false_iff, Bool.or_eq_true, Bool.or_eq_false_iff, Bool.true_eq, Bool.false_eq, reduceCtorEq] at hb1
    have hs1 : Sub h (h.set k1q1 ⟨[.str PIC, .str PICTURE], 0⟩) := Sub.set hk1q1
    refine awp_skip ?_
    change Awp _ _ _ _ _ _ _
    -- region 3  tokens.go:58
    refine awp_rseq [2, 3] (by rfl) fun K hK => ?_
    simp (decide := true) only [ev, putD, Slots.put, Slots.get, if_true, if_false, true_and, ↓ap_move, pop_move]
    repeat (with_reducible refine And.intro ?_ ?_; · first | trivial | omega | (intro hg; simp only [Bool.and_eq_true, Bool.or_eq_true, Bool.not_eq_true', Bool.and_eq_false_iff, Bool.or_eq_false_iff, Bool.not_eq_false', decide_eq_true_eq, decide_eq_false_iff_not, eqNil] at hg; omega) )
    refine aOps_buildSlice (cs := [.str IS]) (by kernel_rfl) fun k3q1 hk3q1 => ?_
    have ne_3q1_1q1 : k3q1 ≠ k1q1 := by simp only [AHeap.set_none] at hk3q1; simp only [hk3q1, ne_eq, not_false_eq_true]
    try have hf_3q1 : h k3q1 = none := by first | assumption | (simp only [AHeap.set_none] at hk3q1; simp only [hk3q1])
    refine aOps_callV (V := .bool false) (by rfl) (by rfl) (by rw [← hq]; exact c_word w₀ _ kx lf s mv tv i l 1 _ [IS] (strsOwn (l := [IS]) (AHeap.set_same _ _ _)) (by decide) ((hs1.trans (Sub.set hk3q1)) _ _ hk) (ht.mono (hs1.trans (Sub.set hk3q1))) (by decide) (by decide) hl) ?_
    simp (decide := true) only [ev, putD, Slots.put, Slots.get, if_true, if_false, true_and, ↓ap_move, pop_move, ↓ag_move, agP, agQ_some, nthDst, gKnown_bool, guardB_bool_true, implies_true, condV_false]
    repeat (with_reducible refine And.intro ?_ ?_; · first | trivial | omega | (intro hg; simp only [Bool.and_eq_true, Bool.or_eq_true, Bool.not_eq_true', Bool.and_eq_false_iff, Bool.or_eq_false_iff, Bool.not_eq_false', decide_eq_true_eq, decide_eq_false_iff_not, eqNil] at hg; omega) )
    refine aOps_no (by rfl) (by rfl) ?_
    try simp (decide := true) only [putD, Slots.put, if_false]
    first
    | (refine aOps_yes (by rfl) ?_; refine aOps_callV (V := _) (by rfl) (by rfl) (?_) ?_)
    | (refine aOps_no (by rfl) (by rfl) ?_)
    | (refine aOps_gcall (V := _) (f := _) (cap := _) (xs := _) (by first | rfl | (simp (decide := true) only [gv, nthDst, Slots.get, if_true, if_false, gKnown_cond, gKnown_bool])) (fun hg => ⟨rfl, ?_⟩) (fun hg => ?_) ?_; · (simp (decide := true) only [gv, nthDst, putD, Slots.put, Slots.get, if_true, if_false, guardB_bool_true, guardB_bool_false, guardB_cond, Bool.not_not] at hg; simp (decide := true) only [evs, ev, putD, Slots.put, Slots.get, if_true, if_false, hg, condV_true, List.append_nil, List.map_cons, List.map_nil, absV, absS] <;> try rfl))
    simp (decide := true) only [aOps_nil, ev, absV, absS, putD, Slots.put, Slots.get, Slots.keep, if_true, if_false, true_and, ↓ap_pick, pop_pick, pPick_bool, ↓ap_assign, pop_assign]
    repeat (with_reducible refine And.intro ?_ ?_; · first | trivial | omega | (intro hg; simp only [Bool.and_eq_true, Bool.or_eq_true, Bool.not_eq_true', Bool.and_eq_false_iff, Bool.or_eq_false_iff, Bool.not_eq_false', decide_eq_true_eq, decide_eq_false_iff_not, eqNil] at hg; omega) )
    apply hK; clear hK K
    refine awp_ret ?_
    try simp only [thenA_ret, inBlockA_ret]
    refine retA_ret h (by repeat (first | exact Sub.refl _ | assumption | refine Sub.trans_set ?_ (by assumption))) (resPre_tmp (resPre_tmp (resPre_nil))) ?_
    simp (decide := true) only [Slots.get, if_true, if_false, and_true, resOf_two]
    unfold picE
    rw [if_neg (by rw [hb1]; decide), hq]
    rfl
theorem c_pictures (w₀ : World) (h : AHeap) (kx : Nat) (lf : Bool) (s : Str) (mv tv : AVal) (i : Int) (l : List TokC) (hk : h kx = some ⟨[.bool lf, .str s, mv, .int .i64 i, tv], 0⟩) (ht : IsL w₀ h 5 tv (l.map tokC)) (hl : l.length ≤ 1099511627776) :
    ACall Tryd.prog w₀ 63 [.ptr (.own kx) 0] h (fun r h' => r = .tuple [.bool (picE l).1, .bool (picE l).2] ∧ h' = h) := by
  cases hq : wordE l 1 [IS] with
  | true => exact c_pictures1 w₀ h kx lf s mv tv i l hk ht hl hq
  | false => exact c_pictures0 w₀ h kx lf s mv tv i l hk ht hl hq
theorem c_takeT (w₀ : World) (h : AHeap) (kx : Nat) (lf : Bool) (s : Str) (mv tv : AVal) (i n : Nat) (kd : UInt8) (eb_x : h kx = some ⟨[.bool lf, .str s, mv, .int .i64 i, tv], 0⟩) (hn : i + n ≤ s.length) (hs : s.length ≤ 1099511627776) :
    ACall Tryd.prog w₀ 68 [.ptr (.own kx) 0, .int .u8 kd.toNat, .int .i64 n] h (fun r h' => r = nxR (takeE s i kd n) ∧ h' = h) := by
  have hs_h : Sub h h := Sub.refl h
  have hin : ((i : Int) + n).toNat = i + n := by omega
  have hid : i + n - i = n := by omega
  refine acall_intro (n := 28) (rs := [.cell 6 35, .tmp 7, .tmp 8]) Tryd.func68 rfl rfl rfl rfl (Nat.le_of_ble_eq_true rfl) ?_
  simp only [initSlots]
  -- region 0  tokens.go:81
  refine awp_rseq [0, 1, 2, 6] (by rfl) fun K hK => ?_
  refine aOps_alloc ze35 (cs := [.int .u8 0, .str [], .int .i64 0, .int .i64 0, .bool false]) (by rfl) fun k0q0 hk0q0 => ?_
  have hn_0q0 : h k0q0 = none := by first | assumption | (simp only [AHeap.set_none] at hk0q0; simp only [hk0q0])
  have hf_0q0 : h k0q0 = none := Sub.none hs_h hn_0q0
  have ne_0q0_x : k0q0 ≠ kx := AHeap.ne_some hn_0q0 eb_x
  simp (decide := true) only [aOps_nil, ev, absV, absS, putD, Slots.put, Slots.keep, if_true, if_false, true_and, ↓ap_assign, pop_assign, Nat.zero_add, Nat.reduceAdd]
  repeat (with_reducible refine And.intro ?_ ?_; · first | trivial | omega | (intro hg; simp only [Bool.and_eq_true, Bool.or_eq_true, Bool.not_eq_true', Bool.and_eq_false_iff, Bool.or_eq_false_iff, Bool.not_eq_false', decide_eq_true_eq, decide_eq_false_iff_not, eqNil] at hg; omega) )
  apply hK; clear hK K
  -- region 1  tokens.go:82
  refine awp_dseq_F 19 [18] [6, 7, 8] mixed (by kernel_rfl) (by rfl) fun K hK => ?_
  simp only [List.take_succ_cons, List.take_zero, List.drop_succ_cons, List.drop_zero]
  simp (decide := true) only [fOps_nil, ev, absV, absS, putD, Slots.put, Slots.get, if_true, if_false, true_and, ↓fp_move, pop_move, ↓fp_nilCheck, pop_nilCheck, pNil_ptr, ↓fp_fieldAddr, pop_fieldAddr, fa71_0, fa68_1, ↓fp_load, pop_load, pLoad_one ag9, fa71_1, pLoad_one ag3, ↓fp_binOp, pop_binOp, isNilC_tmp, cond_false, pBinX_int, pI_add, ↓fp_slice, pop_slice, evO, pSliceS_ii Tryd.underlying9, pSliceS, bndA_int, ↓fp_build, ↓pop_buildL, bld35_0_1, evP, List.map_cons, List.map_nil, rd_ne', ne_eq, not_false_eq_true, ne_0q0_x.symm, rd_own w₀ eb_x, List.getD_cons_zero, List.getD_cons_succ, Nat.zero_add, lv_int, lv_str, Int.toNat_natCast]
  try simp (disch := omega) only [wrap_i64]
  repeat (with_reducible refine And.intro ?_ ?_; · first | trivial | omega | (intro hg; simp only [Bool.and_eq_true, Bool.or_eq_true, Bool.not_eq_true', Bool.and_eq_false_iff, Bool.or_eq_false_iff, Bool.not_eq_false', decide_eq_true_eq, decide_eq_false_iff_not, eqNil] at hg; omega) )
  try simp only [vOps_nil, fOps_nil]
  refine aOps_store (by rfl) (by rfl) (by repeat (first | exact AHeap.set_same _ _ _ | assumption | refine (AHeap.set_ne _ _ (by first | assumption | exact Ne.symm (by assumption))).trans ?_)) sz35 (by rfl) (by rfl) (by first | exact Nat.le_refl _ | decide | (simp; done) | (simp; omega)) (Nat.zero_le _) (by rfl) ?_
  simp only [AHeap.set_set, AVal.cells]
  simp (decide := true) only [aOps_nil, ev, absV, absS, putD, Slots.put, Slots.get, Slots.keep, if_true, if_false, true_and, ↓ap_assign, pop_assign, setAt, List.set_cons_zero, List.set_cons_succ, Nat.zero_add, Nat.reduceAdd, hin, hid]
  repeat (with_reducible refine And.intro ?_ ?_; · first | trivial | omega | (intro hg; simp only [Bool.and_eq_true, Bool.or_eq_true, Bool.not_eq_true', Bool.and_eq_false_iff, Bool.or_eq_false_iff, Bool.not_eq_false', decide_eq_true_eq, decide_eq_false_iff_not, eqNil] at hg; omega) )
  apply hK; clear hK K
  refine awp_ret ?_
  try simp only [thenA_ret, inBlockA_ret]
  refine retA_ret h (by repeat (first | exact Sub.refl _ | assumption | refine Sub.trans_set ?_ (by assumption))) (?_) ?_
  · simp (decide := true) only [resPre, resV_tmp, resV_cell, Slots.get, if_true, if_false, and_true, resV_tmp, resV_cell, pLoad_agg ag35 sz35, rd_set, cellsAt, List.getD_cons_zero, List.getD_cons_succ, Nat.zero_add, Nat.reduceAdd, lv_bool, lv_int, lv_str, allLive, Bool.and_true, cellsAt, List.getD_cons_zero, List.getD_cons_succ, Nat.zero_add, Nat.reduceAdd, lv_bool, lv_int, lv_str, allLive, Bool.and_true]
  
  simp (decide := true) only [Slots.get, if_true, if_false, and_true, resOfG_three, resV_tmp, resV_cell, pLoad_agg ag35 sz35, rd_set, cellsAt, List.getD_cons_zero, List.getD_cons_succ, Nat.zero_add, Nat.reduceAdd, lv_bool, lv_int, lv_str, allLive, Bool.and_true, cellsAt, List.getD_cons_zero, List.getD_cons_succ, Nat.zero_add, Nat.reduceAdd, lv_bool, lv_int, lv_str, allLive, Bool.and_true, nxA, nxR]
  all_goals first | rfl | exact ⟨rfl, rfl⟩ | (simp (decide := true) only [if_true, if_false, *]; done) | (trace_state; fail)
theorem c_skip (w₀ : World) (h : AHeap) (kx : Nat) (lf : Bool) (s : Str) (mv tv : AVal) (i : Nat) (l : List TokC) (hk : h kx = some ⟨[.bool lf, .str s, mv, .int .i64 i, tv], 0⟩) (ht : IsL w₀ h 5 tv (l.map tokC)) (htx : ∀ c, IsL w₀ (h.set kx c) 5 tv (l.map tokC)) (hl : l.length ≤ 1099511627776) (hs : s.length ≤ 1099511627776) (hi : i ≤ s.length) :
    ACall Tryd.prog w₀ 43 [.ptr (.own kx) 0] h (fun r h' => r = .bool (decide (skipE s (picE l).1 i < s.length)) ∧ h' = h.set kx ⟨[.bool lf, .str s, mv, .int .i64 (skipE s (picE l).1 i), tv], 0⟩) := by
  obtain ⟨j, hj⟩ : ∃ j, j = skipE s (picE l).1 i := ⟨_, rfl⟩
  have hjl := skipE_le s (picE l).1 i hi
  rw [← hj] at hjl ⊢
  refine acall_intro (n := 56) (rs := [.tmp 2]) Tryd.func43 rfl rfl rfl rfl (Nat.le_of_ble_eq_true rfl) ?_
  simp only [initSlots]
  -- region 0  tokens.go:65
  refine awp_rseq [0] (by rfl) fun K hK => ?_
  simp (decide := true) only [aOps_nil, ev, absV, absS, putD, Slots.put, Slots.keep, if_true, if_false, true_and, ↓ap_assign, pop_assign]
  repeat (with_reducible refine And.intro ?_ ?_; · first | trivial | omega | (intro hg; simp only [Bool.and_eq_true, Bool.or_eq_true, Bool.not_eq_true', Bool.and_eq_false_iff, Bool.or_eq_false_iff, Bool.not_eq_false', decide_eq_true_eq, decide_eq_false_iff_not, eqNil] at hg; omega) )
  apply hK; clear hK K
  refine awp_scope ?_
  -- region 1  tokens.go:66
  refine awp_rseq [0, 3] (by rfl) fun K hK => ?_
  simp (decide := true) only [ev, putD, Slots.put, Slots.get, if_true, if_false, true_and, ↓ap_move, pop_move]
  repeat (with_reducible refine And.intro ?_ ?_; · first | trivial | omega | (intro hg; simp only [Bool.and_eq_true, Bool.or_eq_true, Bool.not_eq_true', Bool.and_eq_false_iff, Bool.or_eq_false_iff, Bool.not_eq_false', decide_eq_true_eq, decide_eq_false_iff_not, eqNil] at hg; omega) )
  refine aOps_callV (V := .tuple [.bool (picE l).1, .bool (picE l).2]) (by rfl) (by rfl) (c_pictures w₀ _ kx lf s mv tv i l hk ht hl) ?_
  simp (decide := true) only [aOps_nil, ev, putD, Slots.put, Slots.get, Slots.keep, if_true, if_false, true_and, ↓ap_move, pop_move, ↓ap_extract, pop_extract, pExt_tuple, List.length_cons, List.length_nil, List.getD_cons_zero, List.getD_cons_succ, ↓ap_assign, pop_assign, List.getD_cons_zero, List.getD_cons_succ, Nat.zero_add, Nat.reduceAdd]
  repeat (with_reducible refine And.intro ?_ ?_; · first | trivial | omega | (intro hg; simp only [Bool.and_eq_true, Bool.or_eq_true, Bool.not_eq_true', Bool.and_eq_false_iff, Bool.or_eq_false_iff, Bool.not_eq_false', decide_eq_true_eq, decide_eq_false_iff_not, eqNil] at hg; omega) )
  apply hK; clear hK K
  refine awp_seq ?_
  refine awp_label ?_
  change Awp _ _ _ _ _ _ _
  refine awp_seq ?_
  refine awp_block ?_
  refine awp_loopG [0, 3] (fun m : Nat => [(0, .ptr (.own kx) 0), (3, .bool (picE l).1)]) (fun m : Nat => h.set kx ⟨[.bool lf, .str s, mv, .int .i64 m, tv], 0⟩) (fun m : Nat => m ≤ s.length ∧ skipE s (picE l).1 m = j) (fun m : Nat => s.length - m) i (by rfl) (by rw [set_same_self hk]; exact Sub.refl _) ⟨hi, hj.symm⟩ ?_
  rintro m ⟨hm1, hm2⟩
  have hkm := AHeap.set_same h kx ⟨[.bool lf, .str s, mv, .int .i64 m, tv], 0⟩
  have rx := fun o => rd_own w₀ hkm o
  refine awp_seq ?_
  -- region 2  tokens.go:68
  refine awp_dseq_all [0, 3, 20] mixed (by kernel_rfl) (by rfl) (by rfl) fun K hK => ?_
  simp (decide := true) only [aOps_nil, ev, putD, Slots.put, Slots.get, Slots.keep, if_true, if_false, true_and, ↓ap_move, pop_move, ↓ap_nilCheck, pop_nilCheck, pNil_ptr, ↓ap_fieldAddr, pop_fieldAddr, fa71_1, ↓ap_loadL, apL_mk, pLoad_one ag3, fa71_0, fa68_1, pLoad_one ag9, ↓ap_len, pop_len, pLen_str Tryd.underlying9, ↓ap_binOp, pop_binOp, isNilC_tmp, cond_false, pBinX_int, pI_lss, List.getD_cons_zero, List.getD_cons_succ, Nat.zero_add, lv_int, lv_str, rx]
  repeat (with_reducible refine And.intro ?_ ?_; · first | trivial | omega | (intro hg; simp only [Bool.and_eq_true, Bool.or_eq_true, Bool.not_eq_true', Bool.and_eq_false_iff, Bool.or_eq_false_iff, Bool.not_eq_false', decide_eq_true_eq, decide_eq_false_iff_not, eqNil] at hg; omega) )
  apply hK; clear hK K
  refine awp_cond (b := _) rfl (fun hb1 => ?_) (fun hb1 => ?_)
  · try simp only [decide_eq_true_eq] at hb1
    have hml : m < s.length := by omega
    refine awp_skip ?_
    change Awp _ _ _ _ _ _ _
    refine awp_block ?_
    refine awp_seq ?_
    refine awp_block ?_
    -- region 3  tokens.go:70
    refine awp_rseq [0, 3, 21] (by rfl) fun K hK => ?_
    simp (decide := true) only [ev, putD, Slots.put, Slots.get, if_true, if_false, true_and, ↓ap_move, pop_move]
    repeat (with_reducible refine And.intro ?_ ?_; · first | trivial | omega | (intro hg; simp only [Bool.and_eq_true, Bool.or_eq_true, Bool.not_eq_true', Bool.and_eq_false_iff, Bool.or_eq_false_iff, Bool.not_eq_false', decide_eq_true_eq, decide_eq_false_iff_not, eqNil] at hg; omega) )
    refine aOps_callV (V := .int .u8 (peekE s m).toNat) (by rfl) (by rfl) (c_peek0 w₀ _ kx lf s mv tv m hkm (by omega)) ?_
    simp (decide := true) only [aOps_nil, ev, absV, absS, putD, Slots.put, Slots.get, Slots.keep, if_true, if_false, true_and, ↓ap_binOp, pop_binOp, isNilC_int, cond_false, pBinX_int, pI_eql, ↓ap_assign, pop_assign]
    repeat (with_reducible refine And.intro ?_ ?_; · first | trivial | omega | (intro hg; simp only [Bool.and_eq_true, Bool.or_eq_true, Bool.not_eq_true', Bool.and_eq_false_iff, Bool.or_eq_false_iff, Bool.not_eq_false', decide_eq_true_eq, decide_eq_false_iff_not, eqNil] at hg; omega) )
    apply hK; clear hK K
    refine awp_cond (b := _) rfl (fun hb2 => ?_) (fun hb2 => ?_)
    · try simp only [decide_eq_true_eq] at hb2
      refine awp_skip ?_
      change Awp _ _ _ _ _ _ _
      -- region 5  tokens.go:75
      refine awp_r [0, 3] (by rfl) ?_
      simp (decide := true) only [ev, absV, absS, putD, Slots.put, Slots.get, if_true, if_false, true_and, ↓ap_move, pop_move, ↓ap_nilCheck, pop_nilCheck, pNil_ptr, ↓ap_fieldAddr, pop_fieldAddr, fa71_1, ↓ap_loadL, apL_mk, pLoad_one ag3, ↓ap_binOp, pop_binOp, isNilC_int, cond_false, pBinX_int, pI_add, List.getD_cons_zero, List.getD_cons_succ, Nat.zero_add, lv_int, rx]
      try simp (disch := omega) only [wrap_i64]
      repeat (with_reducible refine And.intro ?_ ?_; · first | trivial | omega | (intro hg; simp only [Bool.and_eq_true, Bool.or_eq_true, Bool.not_eq_true', Bool.and_eq_false_iff, Bool.or_eq_false_iff, Bool.not_eq_false', decide_eq_true_eq, decide_eq_false_iff_not, eqNil] at hg; omega) )
      refine aOps_store (by rfl) (by rfl) (by repeat (first | exact AHeap.set_same _ _ _ | assumption | refine (AHeap.set_ne _ _ (by first | assumption | exact Ne.symm (by assumption))).trans ?_)) sz3 (by rfl) (by rfl) (by first | exact Nat.le_refl _ | decide | (simp; done) | (simp; omega)) (Nat.zero_le _) (by rfl) ?_
      simp only [AHeap.set_set, AVal.cells]
      simp (decide := true) only [aOps_nil, ev, putD, Slots.get, Slots.keep, if_true, if_false, setAt, List.set_cons_zero, List.set_cons_succ]
      repeat (with_reducible refine And.intro ?_ ?_; · first | trivial | omega | (intro hg; simp only [Bool.and_eq_true, Bool.or_eq_true, Bool.not_eq_true', Bool.and_eq_false_iff, Bool.or_eq_false_iff, Bool.not_eq_false', decide_eq_true_eq, decide_eq_false_iff_not, eqNil] at hg; omega) )
      try simp only [thenA_normal, inBlockA_normal]
      refine ⟨m + 1, rfl, Sub.refl _, ⟨by omega, ?_⟩, by omega⟩
      rw [← hm2, skipE_step s (picE l).1 m, if_neg (by omega), if_pos]
      unfold skp
      first
      | exact .inl ((u8_eq _ 32).mp hb2)
      | exact .inr ⟨hb3.1.1, hb3.1.2, (u8_eq _ 32).mp hb3.2⟩
    · try simp only [decide_eq_false_iff_not] at hb2
      -- region 4  tokens.go:71
      refine awp_rseq [0, 3, 25] (by rfl) fun K hK => ?_
      simp (decide := true) only [ev, putD, Slots.put, Slots.get, if_true, if_false, true_and, ↓ap_move, pop_move, ↓ap_unOp, pop_unOp, pU_not, ↓ag_move, agP, agQ_some, nthDst, gKnown_bool, guardB_bool_true, implies_true]
      try simp (disch := omega) only [wrap_i64, wrap_u8]
      repeat (with_reducible refine And.intro ?_ ?_; · first | trivial | omega | (intro hg; simp only [Bool.and_eq_true, Bool.or_eq_true, Bool.not_eq_true', Bool.and_eq_false_iff, Bool.or_eq_false_iff, Bool.not_eq_false', decide_eq_true_eq, decide_eq_false_iff_not, eqNil] at hg; omega) )
      first
      | (refine aOps_yes (by rfl) ?_; refine aOps_callV (V := .int .u8 (peekE s m).toNat) (by rfl) (by rfl) (c_peek0 w₀ _ kx lf s mv tv m hkm (by omega)) ?_)
      | (refine aOps_no (by rfl) (by rfl) ?_)
      | (refine aOps_gcall (V := .int .u8 (peekE s m).toNat) (f := _) (cap := _) (xs := _) (by first | rfl | (simp (decide := true) only [gv, nthDst, Slots.get, if_true, if_false, gKnown_cond, gKnown_bool])) (fun hg => ⟨rfl, ?_⟩) (fun hg => c_peek0 w₀ _ kx lf s mv tv m hkm (by omega)) ?_; · (simp (decide := true) only [gv, nthDst, Slots.get, if_true, if_false, guardB_bool_true] at hg; simp (decide := true) only [evs, ev, Slots.get, if_true, if_false, hg, condV_true, List.append_nil, List.map_cons, List.map_nil, absV, absS] <;> try rfl))
      try simp (decide := true) only [putD, Slots.put, Slots.get, if_true, if_false, gv, nthDst, guardB_bool_true]
      first
      | (refine aOps_yes (by rfl) ?_; refine aOps_callV (V := .bool (sepB (peekE s m))) (by rfl) (by rfl) (c_sep w₀ _ _) ?_)
      | (refine aOps_no (by rfl) (by rfl) ?_)
      | (refine aOps_gcall (V := .bool (sepB (peekE s m))) (f := _) (cap := _) (xs := _) (by first | rfl | (simp (decide := true) only [gv, nthDst, Slots.get, if_true, if_false, gKnown_cond, gKnown_bool])) (fun hg => ⟨rfl, ?_⟩) (fun hg => c_sep w₀ _ _) ?_; · (simp (decide := true) only [gv, nthDst, Slots.get, if_true, if_false, guardB_bool_true] at hg; simp (decide := true) only [evs, ev, Slots.get, if_true, if_false, hg, condV_true, List.append_nil, List.map_cons, List.map_nil] <;> try rfl))
      simp (decide := true) only [ev, absV, absS, putD, Slots.put, Slots.get, if_true, if_false, true_and, gv, nthDst, guardB_bool_true, ↓ap_pick, pop_pick, pPick_bool, pickV_cond_l, pickV_and, ↓ap_move, pop_move, ↓ag_move, agP, agQ_some, gKnown_bool, implies_true]
      repeat (with_reducible refine And.intro ?_ ?_; · first | trivial | omega | (intro hg; simp only [Bool.and_eq_true, Bool.or_eq_true, Bool.not_eq_true', Bool.and_eq_false_iff, Bool.or_eq_false_iff, Bool.not_eq_false', decide_eq_true_eq, decide_eq_false_iff_not, eqNil] at hg; omega) )
      first
      | (refine aOps_yes (by rfl) ?_; refine aOps_callV (V := .int .u8 (peekE s (m + 1)).toNat) (by rfl) (by rfl) (c_peek w₀ _ kx lf s mv tv m 1 hkm (by omega) (by omega) (by omega)) ?_)
      | (refine aOps_no (by rfl) (by rfl) ?_)
      | (refine aOps_gcall (V := .int .u8 (peekE s (m + 1)).toNat) (f := _) (cap := _) (xs := _) (by first | rfl | (simp (decide := true) only [gv, nthDst, Slots.get, if_true, if_false, gKnown_cond, gKnown_bool])) (fun hg => ⟨rfl, ?_⟩) (fun hg => c_peek w₀ _ kx lf s mv tv m 1 hkm (by omega) (by omega) (by omega)) ?_; · (simp (decide := true) only [gv, nthDst, Slots.get, if_true, if_false, guardB_bool_true] at hg; simp (decide := true) only [evs, ev, Slots.get, if_true, if_false, hg, condV_true, List.append_nil, List.map_cons, List.map_nil, absV, absS] <;> try rfl))
      simp (decide := true) only [aOps_nil, ev, absV, absS, putD, Slots.put, Slots.get, Slots.keep, if_true, if_false, true_and, gv, nthDst, guardB_bool_true, ↓ag_binOp, pop_binOp, agP, agQ_some, gKnown_bool, implies_true, isNilC_int, cond_false, cv_binl, cp_binl, pBinX_int, pI_eql, ↓ap_pick, pop_pick, pPick_bool, pickV_cond_l, pickV_and, ↓ap_assign, pop_assign]
      repeat (with_reducible refine And.intro ?_ ?_; · first | trivial | omega | (intro hg; simp only [Bool.and_eq_true, Bool.or_eq_true, Bool.not_eq_true', Bool.and_eq_false_iff, Bool.or_eq_false_iff, Bool.not_eq_false', decide_eq_true_eq, decide_eq_false_iff_not, eqNil] at hg; omega) )
      apply hK; clear hK K
      refine awp_cond (b := _) rfl (fun hb3 => ?_) (fun hb3 => ?_)
      · try simp only [decide_eq_true_eq, Bool.not_eq_true', Bool.and_eq_true] at hb3
        refine awp_skip ?_
        change Awp _ _ _ _ _ _ _
        -- region 5  tokens.go:75
        refine awp_r [0, 3] (by rfl) ?_
        simp (decide := true) only [ev, absV, absS, putD, Slots.put, Slots.get, if_true, if_false, true_and, ↓ap_move, pop_move, ↓ap_nilCheck, pop_nilCheck, pNil_ptr, ↓ap_fieldAddr, pop_fieldAddr, fa71_1, ↓ap_loadL, apL_mk, pLoad_one ag3, ↓ap_binOp, pop_binOp, isNilC_int, cond_false, pBinX_int, pI_add, List.getD_cons_zero, List.getD_cons_succ, Nat.zero_add, lv_int, rx]
        try simp (disch := omega) only [wrap_i64]
        repeat (with_reducible refine And.intro ?_ ?_; · first | trivial | omega | (intro hg; simp only [Bool.and_eq_true, Bool.or_eq_true, Bool.not_eq_true', Bool.and_eq_false_iff, Bool.or_eq_false_iff, Bool.not_eq_false', decide_eq_true_eq, decide_eq_false_iff_not, eqNil] at hg; omega) )
        refine aOps_store (by rfl) (by rfl) (by repeat (first | exact AHeap.set_same _ _ _ | assumption | refine (AHeap.set_ne _ _ (by first | assumption | exact Ne.symm (by assumption))).trans ?_)) sz3 (by rfl) (by rfl) (by first | exact Nat.le_refl _ | decide | (simp; done) | (simp; omega)) (Nat.zero_le _) (by rfl) ?_
        simp only [AHeap.set_set, AVal.cells]
        simp (decide := true) only [aOps_nil, ev, putD, Slots.get, Slots.keep, if_true, if_false, setAt, List.set_cons_zero, List.set_cons_succ]
        repeat (with_reducible refine And.intro ?_ ?_; · first | trivial | omega | (intro hg; simp only [Bool.and_eq_true, Bool.or_eq_true, Bool.not_eq_true', Bool.and_eq_false_iff, Bool.or_eq_false_iff, Bool.not_eq_false', decide_eq_true_eq, decide_eq_false_iff_not, eqNil] at hg; omega) )
        try simp only [thenA_normal, inBlockA_normal]
        refine ⟨m + 1, rfl, Sub.refl _, ⟨by omega, ?_⟩, by omega⟩
        rw [← hm2, skipE_step s (picE l).1 m, if_neg (by omega), if_pos]
        unfold skp
        first
        | exact .inl ((u8_eq _ 32).mp hb2)
        | exact .inr ⟨hb3.1.1, hb3.1.2, (u8_eq _ 32).mp hb3.2⟩
      · try simp only [decide_eq_false_iff_not, Bool.not_eq_false', Bool.and_eq_false_iff] at hb3
        refine awp_exit ?_
        change Awp _ _ _ _ _ _ _
        -- region 6  tokens.go:77
        refine awp_dseq_all [2] mixed (by kernel_rfl) (by rfl) (by rfl) fun K hK => ?_
        simp (decide := true) only [aOps_nil, ev, putD, Slots.put, Slots.get, Slots.keep, if_true, if_false, true_and, ↓ap_move, pop_move, ↓ap_nilCheck, pop_nilCheck, pNil_ptr, ↓ap_fieldAddr, pop_fieldAddr, fa71_1, ↓ap_loadL, apL_mk, pLoad_one ag3, fa71_0, fa68_1, pLoad_one ag9, ↓ap_len, pop_len, pLen_str Tryd.underlying9, ↓ap_binOp, pop_binOp, isNilC_tmp, cond_false, pBinX_int, pI_lss, ↓ap_assign, pop_assign, List.getD_cons_zero, List.getD_cons_succ, Nat.zero_add, lv_int, lv_str, rx]
        repeat (with_reducible refine And.intro ?_ ?_; · first | trivial | omega | (intro hg; simp only [Bool.and_eq_true, Bool.or_eq_true, Bool.not_eq_true', Bool.and_eq_false_iff, Bool.or_eq_false_iff, Bool.not_eq_false', decide_eq_true_eq, decide_eq_false_iff_not, eqNil] at hg; omega) )
        apply hK; clear hK K
        refine awp_ret ?_
        try simp only [noGotoA_ret]
        refine retA_retE (resPre_tmp (resPre_nil)) ?_
        simp (decide := true) only [Slots.get, if_true, resOf_one]
        have hns : ¬ skp s (picE l).1 m := by
          unfold skp
          rintro (q | ⟨q1, q2, q3⟩)
          · exact hb2 ((u8_eq _ 32).mpr q)
          · rcases hb3 with (q | q) | q
            · rw [q1] at q; cases q
            · rw [q2] at q; cases q
            · exact q ((u8_eq _ 32).mpr q3)
        have e : m = j := by
          rw [← hm2, skipE_step, if_neg (by omega), if_neg hns]
        rw [e]
        exact ⟨_, Sub.refl _, by simp, rfl⟩
  · try simp only [decide_eq_false_iff_not] at hb1
    refine awp_exit ?_
    change Awp _ _ _ _ _ _ _
    -- region 6  tokens.go:77
    refine awp_dseq_all [2] mixed (by kernel_rfl) (by rfl) (by rfl) fun K hK => ?_
    simp (decide := true) only [aOps_nil, ev, putD, Slots.put, Slots.get, Slots.keep, if_true, if_false, true_and, ↓ap_move, pop_move, ↓ap_nilCheck, pop_nilCheck, pNil_ptr, ↓ap_fieldAddr, pop_fieldAddr, fa71_1, ↓ap_loadL, apL_mk, pLoad_one ag3, fa71_0, fa68_1, pLoad_one ag9, ↓ap_len, pop_len, pLen_str Tryd.underlying9, ↓ap_binOp, pop_binOp, isNilC_tmp, cond_false, pBinX_int, pI_lss, ↓ap_assign, pop_assign, List.getD_cons_zero, List.getD_cons_succ, Nat.zero_add, lv_int, lv_str, rx]
    repeat (with_reducible refine And.intro ?_ ?_; · first | trivial | omega | (intro hg; simp only [Bool.and_eq_true, Bool.or_eq_true, Bool.not_eq_true', Bool.and_eq_false_iff, Bool.or_eq_false_iff, Bool.not_eq_false', decide_eq_true_eq, decide_eq_false_iff_not, eqNil] at hg; omega) )
    apply hK; clear hK K
    refine awp_ret ?_
    try simp only [noGotoA_ret]
    refine retA_retE (resPre_tmp (resPre_nil)) ?_
    simp (decide := true) only [Slots.get, if_true, resOf_one]
    have e : m = j := by
      rw [← hm2, skipE_step, if_pos (by omega)]
    rw [e]
    exact ⟨_, Sub.refl _, by simp, rfl⟩
end Go.Proofs.YtmadddihphkmoaaDoor

/-
  Contracts: picture of the scanner.
  Conditions: none.
-/
namespace Go.Proofs.YtmadddihphkmoaaDoor
open Go.AM
open Go.Proofs
open Go.Col
open Go.Tok
open Go.RowKit (Below)
set_option maxRecDepth 100000

def tok0 : List AVal := [.int .u8 0, .str [], .int .i64 0, .int .i64 0, .bool false]
theorem indexByte_contains : ∀ (s : Str) (c : UInt8), decide (0 ≤ Lib.indexByte s c) = s.contains c
  | [], c => rfl
  | b :: s, c => by
    have ih := indexByte_contains s c
    rw [List.contains_cons, ← ih, Lib.indexByte]
    by_cases h : b = c
    · subst h
      simp
    · have h1 : (b == c) = false := by simp [h]
      have h2 : (c == b) = false := by simp [Ne.symm h]
      rw [h1, h2, if_neg (by decide), Bool.false_or]
      apply decide_eq_decide.2
      by_cases e : Lib.indexByte s c = -1
      · rw [e, if_pos (by decide)]
      · rw [if_neg (by simpa using e)]
        have : -1 ≤ Lib.indexByte s c := by
          clear ih h h1 h2 e b
          induction s with
          | nil => show (-1 : Int) ≤ -1; decide
          | cons b s ih =>
            rw [Lib.indexByte]
            split
            · decide
            · split
              · decide
              · omega
        omega
theorem c_hasQ (w₀ : World) (h : AHeap) (s : Str) (c : UInt8) : ACall Tryd.prog w₀ 93 [.str s, .str [c]] h (fun v h' => v = .bool (s.contains c) ∧ h' = h) := by
  refine acall_of_calls (vals := [.string ⟨⟨s⟩⟩, .string ⟨⟨[c]⟩⟩]) (val := .bool (s.contains c)) Tryd.func93 rfl rfl (fun φ vs hv => VRs_ss hv) (fun φ => rfl) fun w => ?_
  refine (Tryd.strings_Contains_one ⟨⟨s⟩⟩ c w).mono fun e w' ⟨e1, e2⟩ => ⟨?_, ?_⟩
  · rw [e1]
    show Ending.returned (.bool (decide (0 ≤ Lib.indexByte s c))) = _
    rw [indexByte_contains]
  · subst e2; exact Go.RowKit.Below.refl _ _
theorem c_pref (w₀ : World) (h : AHeap) (s g : Str) : ACall Tryd.prog w₀ 54 [.str s, .str g] h (fun v h' => v = .bool (g.isPrefixOf s) ∧ h' = h) := by
  refine acall_of_calls (vals := [.string ⟨⟨s⟩⟩, .string ⟨⟨g⟩⟩]) (val := .bool (g.isPrefixOf s)) Tryd.func54 rfl rfl (fun φ vs hv => VRs_ss hv) (fun φ => rfl) fun w => ?_
  refine (Tryd.strings_HasPrefix ⟨⟨s⟩⟩ ⟨⟨g⟩⟩ w).mono fun e w' ⟨e1, e2⟩ => ⟨e1, ?_⟩
  subst e2; exact Go.RowKit.Below.refl _ _
theorem f_digit (w₀ : World) : IsFn w₀ 95 digitB := fun g b => c_digitT w₀ g b
theorem f_wordy (w₀ : World) : IsFn w₀ 70 wordyB := fun g b => c_wordy w₀ g b
theorem f_ends (w₀ : World) : IsFn w₀ 90 endsB := by
  intro h b
  refine acall_intro (n := 9) (rs := [.tmp 2]) Tryd.func90 rfl rfl rfl rfl (Nat.le_of_ble_eq_true rfl) ?_
  simp only [initSlots]
  -- region 0  tokens.go:90
  refine awp_rseq [0] (by rfl) fun K hK => ?_
  simp (decide := true) only [aOps_nil, ev, absV, absS, putD, Slots.put, Slots.keep, if_true, if_false, true_and, ↓ap_assign, pop_assign]
  repeat (with_reducible refine And.intro ?_ ?_; · first | trivial | omega | (intro hg; simp only [Bool.and_eq_true, Bool.or_eq_true, Bool.not_eq_true', Bool.and_eq_false_iff, Bool.or_eq_false_iff, Bool.not_eq_false', decide_eq_true_eq, decide_eq_false_iff_not, eqNil] at hg; omega) )
  apply hK; clear hK K
  -- region 1  tokens.go:90
  refine awp_rseq [2] (by rfl) fun K hK => ?_
  simp (decide := true) only [ev, absV, absS, putD, Slots.put, Slots.get, if_true, if_false, true_and, ↓ap_move, pop_move, ↓ap_binOp, pop_binOp, isNilC_int, cond_false, pBinX_int, pI_eql, ↓ag_move, agP, agQ_some, nthDst, gKnown_bool, guardB_bool_false, implies_true]
  repeat (with_reducible refine And.intro ?_ ?_; · first | trivial | omega | (intro hg; simp only [Bool.and_eq_true, Bool.or_eq_true, Bool.not_eq_true', Bool.and_eq_false_iff, Bool.or_eq_false_iff, Bool.not_eq_false', decide_eq_true_eq, decide_eq_false_iff_not, eqNil] at hg; omega) )
  first
  | (refine aOps_yes (by rfl) ?_; refine aOps_callV (V := .bool (sepB b)) (by rfl) (by rfl) (c_sep w₀ _ b) ?_)
  | (refine aOps_no (by rfl) (by rfl) ?_)
  | (refine aOps_gcall (V := .bool (sepB b)) (f := _) (cap := _) (xs := _) (by first | rfl | (simp (decide := true) only [gv, nthDst, Slots.get, if_true, if_false, gKnown_cond, gKnown_bool])) (fun hg => ⟨rfl, ?_⟩) (fun hg => c_sep w₀ _ b) ?_; · (simp (decide := true) only [gv, nthDst, Slots.get, if_true, if_false, guardB_bool_false] at hg; simp (decide := true) only [evs, ev, Slots.get, if_true, if_false, hg, condV_true, List.append_nil, List.map_cons, List.map_nil] <;> try rfl))
  simp (decide := true) only [aOps_nil, ev, absV, absS, putD, Slots.put, Slots.get, Slots.keep, if_true, if_false, true_and, gv, nthDst, guardB_bool_false, ↓ap_pick, pop_pick, pPick_bool, pickV_cond_r, pickV_or, ↓ap_assign, pop_assign]
  repeat (with_reducible refine And.intro ?_ ?_; · first | trivial | omega | (intro hg; simp only [Bool.and_eq_true, Bool.or_eq_true, Bool.not_eq_true', Bool.and_eq_false_iff, Bool.or_eq_false_iff, Bool.not_eq_false', decide_eq_true_eq, decide_eq_false_iff_not, eqNil] at hg; omega) )
  apply hK; clear hK K
  refine awp_ret ?_
  try simp only [thenA_ret, inBlockA_ret]
  refine retA_ret _ (Sub.refl _) (resPre_tmp (resPre_nil)) ?_
  simp (decide := true) only [Slots.get, if_true, and_true, resOf_one]
  have e1 : decide ((b.toNat : Int) = 46) = decide (b = 46) := decide_eq_decide.2 (iff_of_eq (u8_eq b 46))
  unfold endsB
  rw [e1]
theorem f_nsp (w₀ : World) : IsFn w₀ 92 (fun b => !decide (b = 32)) := by
  intro h b
  refine acall_intro (n := 5) (rs := [.tmp 2]) Tryd.func92 rfl rfl rfl rfl (Nat.le_of_ble_eq_true rfl) ?_
  simp only [initSlots]
  -- region 0  tokens.go:91
  refine awp_rseq [0] (by rfl) fun K hK => ?_
  simp (decide := true) only [aOps_nil, ev, absV, absS, putD, Slots.put, Slots.keep, if_true, if_false, true_and, ↓ap_assign, pop_assign]
  repeat (with_reducible refine And.intro ?_ ?_; · first | trivial | omega | (intro hg; simp only [Bool.and_eq_true, Bool.or_eq_true, Bool.not_eq_true', Bool.and_eq_false_iff, Bool.or_eq_false_iff, Bool.not_eq_false', decide_eq_true_eq, decide_eq_false_iff_not, eqNil] at hg; omega) )
  apply hK; clear hK K
  -- region 1  tokens.go:91
  refine awp_rseq [2] (by rfl) fun K hK => ?_
  simp (decide := true) only [aOps_nil, ev, absV, absS, putD, Slots.put, Slots.get, Slots.keep, if_true, if_false, true_and, ↓ap_move, pop_move, ↓ap_binOp, pop_binOp, isNilC_int, cond_false, pBinX_int, pI_neq, ↓ap_assign, pop_assign]
  repeat (with_reducible refine And.intro ?_ ?_; · first | trivial | omega | (intro hg; simp only [Bool.and_eq_true, Bool.or_eq_true, Bool.not_eq_true', Bool.and_eq_false_iff, Bool.or_eq_false_iff, Bool.not_eq_false', decide_eq_true_eq, decide_eq_false_iff_not, eqNil] at hg; omega) )
  apply hK; clear hK K
  refine awp_ret ?_
  try simp only [thenA_ret, inBlockA_ret]
  refine retA_ret _ (Sub.refl _) (resPre_tmp (resPre_nil)) ?_
  simp (decide := true) only [Slots.get, if_true, and_true, resOf_one]
  have e1 : decide ((b.toNat : Int) = 32) = decide (b = 32) := decide_eq_decide.2 (iff_of_eq (u8_eq b 32))
  rw [← e1]
theorem pictureE_no {s : Str} {i : Nat} {is : Bool} (hc : ¬ (is = true ∧ foldE [peekE s i, peekE s (i + 1)] = IS ∧ wordyB (peekE s (i + 2)) = false)) (n0 : Nat) (hn : n0 = runE s i (fun b => !decide (b = 32))) (m : Nat) (hm : (m : Int) = if endsB (peekE s ((i : Int) + n0 - 1)) = true then (n0 : Int) - 1 else n0) :
    pictureE s i is = if m = 0 ∨ endsB (peekE s ((i : Int) + m - 1)) = true then .err 4 else if (foldE ((s.drop i).take m)).contains 34 = true then .err 4 else ⟨4, foldE ((s.drop i).take m), m, 0⟩ := by
  unfold pictureE
  rw [if_neg hc]
  simp only
  rw [← hn, ← hm, Int.toNat_natCast]
  by_cases h0 : m = 0
  · rw [if_pos (.inl (by omega)), if_pos (.inl h0)]
  · by_cases h1 : endsB (peekE s ((i : Int) + m - 1)) = true
    · rw [if_pos (.inr h1), if_pos (.inr h1)]
    · have f1 : ¬ ((m : Int) = 0 ∨ endsB (peekE s ((i : Int) + m - 1)) = true) := fun q => q.elim (fun q => h0 (by omega)) h1
      have f2 : ¬ (m = 0 ∨ endsB (peekE s ((i : Int) + m - 1)) = true) := fun q => q.elim h0 h1
      rw [if_neg f1, if_neg f2]
theorem pictureEnd (w₀ : World) (h B : AHeap) (hs_B : Sub h B) (kx k0q0 : Nat) (lf : Bool) (s : Str) (mv tv : AVal) (i : Nat) (is : Bool) (eb_x : B kx = some ⟨[.bool lf, .str s, mv, .int .i64 i, tv], 0⟩) (eb_0q0 : B k0q0 = some ⟨tok0, 0⟩) (hf_0q0 : h k0q0 = none) (ne_0q0_x : k0q0 ≠ kx) (h32 : peekE s i ≠ 32) (hs : s.length ≤ 1099511627776)
    (hc : ¬ (is = true ∧ foldE [peekE s i, peekE s (i + 1)] = IS ∧ wordyB (peekE s (i + 2)) = false)) :
    Awp Tryd.prog w₀ 68 (dropSeq 2 (bodyOf Tryd.f66)) (retA Tryd.prog w₀ [.cell 4 35, .tmp 5, .tmp 6] ((fun r h' => r = nxR (pictureE s i is) ∧ h' = h))) [(0, .ptr (.own kx) 0), (4, .ptr (.own k0q0) 0)] (B) := by
  have hi := peekE_in h32
  have hp := run_pos32 h32
  have hrl := runE_le s i (fun b => !decide (b = 32)) (by omega)
  obtain ⟨n0, hn0⟩ : ∃ n0, n0 = runE s i (fun b => !decide (b = 32)) := ⟨_, rfl⟩
  rw [← hn0] at hp hrl
  unfold tok0 at eb_0q0
  change Awp _ _ _ (Code.seq _ _) _ _ _
  -- region 3  tokens.go:90
  refine awp_rseq [0, 4, 7] (by rfl) fun K hK => ?_
  simp (decide := true) only [aOps_nil, ev, putD, Slots.put, Slots.keep, if_true, if_false, true_and, ↓ap_assign, pop_assign]
  repeat (with_reducible refine And.intro ?_ ?_; · first | trivial | omega | (intro hg; simp only [Bool.and_eq_true, Bool.or_eq_true, Bool.not_eq_true', Bool.and_eq_false_iff, Bool.or_eq_false_iff, Bool.not_eq_false', decide_eq_true_eq, decide_eq_false_iff_not, eqNil] at hg; omega) )
  apply hK; clear hK K
  -- region 4  tokens.go:91
  refine awp_rseq [0, 4, 7, 8] (by rfl) fun K hK => ?_
  simp (decide := true) only [ev, putD, Slots.put, Slots.get, if_true, if_false, true_and, ↓ap_move, pop_move]
  repeat (with_reducible refine And.intro ?_ ?_; · first | trivial | omega | (intro hg; simp only [Bool.and_eq_true, Bool.or_eq_true, Bool.not_eq_true', Bool.and_eq_false_iff, Bool.or_eq_false_iff, Bool.not_eq_false', decide_eq_true_eq, decide_eq_false_iff_not, eqNil] at hg; omega) )
  refine aOps_callV (V := .int .i64 n0) (by rfl) (by rfl) (by rw [hn0]; exact c_run0 w₀ B kx lf s mv tv i _ _ (f_nsp w₀) eb_x (by omega) hs) ?_
  simp (decide := true) only [aOps_nil, ev, putD, Slots.put, Slots.get, Slots.keep, if_true, if_false, true_and, ↓ap_assign, pop_assign]
  repeat (with_reducible refine And.intro ?_ ?_; · first | trivial | omega | (intro hg; simp only [Bool.and_eq_true, Bool.or_eq_true, Bool.not_eq_true', Bool.and_eq_false_iff, Bool.or_eq_false_iff, Bool.not_eq_false', decide_eq_true_eq, decide_eq_false_iff_not, eqNil] at hg; omega) )
  apply hK; clear hK K
  refine awp_seq ?_
  -- region 5  tokens.go:92
  refine awp_rseq [0, 4, 7, 8, 36] (by rfl) fun K hK => ?_
  simp (decide := true) only [ev, absV, absS, putD, Slots.put, Slots.get, if_true, if_false, true_and, ↓ap_move, pop_move, ↓ap_binOp, pop_binOp, isNilC_int, cond_false, pBinX_int, pI_sub]
  try simp (disch := omega) only [wrap_i64]
  repeat (with_reducible refine And.intro ?_ ?_; · first | trivial | omega | (intro hg; simp only [Bool.and_eq_true, Bool.or_eq_true, Bool.not_eq_true', Bool.and_eq_false_iff, Bool.or_eq_false_iff, Bool.not_eq_false', decide_eq_true_eq, decide_eq_false_iff_not, eqNil] at hg; omega) )
  refine aOps_callV (V := .int .u8 (peekE s ((i : Int) + n0 - 1)).toNat) (by rfl) (by rfl) (by have := c_peek w₀ B kx lf s mv tv i ((n0 : Int) - 1) eb_x (by omega) (by omega) (by omega); rwa [← Int.add_sub_assoc] at this) ?_
  refine aOps_callV (V := .bool (endsB (peekE s ((i : Int) + n0 - 1)))) (by rfl) (by rfl) (f_ends w₀ _ _) ?_
  simp (decide := true) only [aOps_nil, putD, Slots.put, Slots.keep, if_true, if_false]
  repeat (with_reducible refine And.intro ?_ ?_; · first | trivial | omega | (intro hg; simp only [Bool.and_eq_true, Bool.or_eq_true, Bool.not_eq_true', Bool.and_eq_false_iff, Bool.or_eq_false_iff, Bool.not_eq_false', decide_eq_true_eq, decide_eq_false_iff_not, eqNil] at hg; omega) )
  apply hK; clear hK K
  refine awp_joinT [0, 4, 7, 8] (fun m : Nat => [(0, .ptr (.own kx) 0), (4, .ptr (.own k0q0) 0), (7, .func 90 []), (8, .int .i64 m)]) (fun m : Nat => B) (fun m : Nat => (m : Int) = if endsB (peekE s ((i : Int) + n0 - 1)) = true then (n0 : Int) - 1 else n0) ?_ ?_
  · refine awp_cond (b := _) rfl (fun hb1 => ?_) (fun hb1 => ?_)
    · try simp only [decide_eq_true_eq, decide_eq_false_iff_not, Bool.not_eq_true', Bool.not_eq_false', Bool.and_eq_true, Bool.and_eq_false_iff, Bool.or_eq_true, Bool.or_eq_false_iff, Bool.true_eq, Bool.false_eq, reduceCtorEq] at hb1
      -- region 6  tokens.go:93
      refine awp_r [0, 4, 7, 8] (by rfl) ?_
      simp (decide := true) only [aOps_nil, ev, absV, absS, putD, Slots.put, Slots.get, Slots.keep, if_true, if_false, true_and, ↓ap_move, pop_move, ↓ap_binOp, pop_binOp, isNilC_int, cond_false, pBinX_int, pI_sub, ↓ap_assign, pop_assign, nxA, nxR]
      try simp (disch := omega) only [wrap_i64]
      repeat (with_reducible refine And.intro ?_ ?_; · first | trivial | omega | (intro hg; simp only [Bool.and_eq_true, Bool.or_eq_true, Bool.not_eq_true', Bool.and_eq_false_iff, Bool.or_eq_false_iff, Bool.not_eq_false', decide_eq_true_eq, decide_eq_false_iff_not, eqNil] at hg; omega) )
      try simp only [thenA_normal]
      first
      | exact ⟨n0 - 1, by rw [show ((n0 - 1 : Nat) : Int) = (n0 : Int) - 1 by omega]; rfl, Sub.refl _, by rw [if_pos hb1]; omega⟩
      | exact ⟨n0, rfl, Sub.refl _, by rw [if_neg (by rw [hb1]; decide)]⟩
    · try simp only [decide_eq_true_eq, decide_eq_false_iff_not, Bool.not_eq_true', Bool.not_eq_false', Bool.and_eq_true, Bool.and_eq_false_iff, Bool.or_eq_true, Bool.or_eq_false_iff, Bool.true_eq, Bool.false_eq, reduceCtorEq] at hb1
      refine awp_skip ?_
      try simp only [thenA_normal]
      first
      | exact ⟨n0 - 1, by rw [show ((n0 - 1 : Nat) : Int) = (n0 : Int) - 1 by omega]; rfl, Sub.refl _, by rw [if_pos hb1]; omega⟩
      | exact ⟨n0, rfl, Sub.refl _, by rw [if_neg (by rw [hb1]; decide)]⟩
  · intro m hm
    have hm1 : m ≤ n0 := by
      have : (m : Int) ≤ n0 := by rw [hm]; split <;> omega
      omega
    have hpe := pictureE_no hc n0 hn0 m hm
    rw [hpe]
    refine awp_seq ?_
    -- region 7  tokens.go:95
    refine awp_rseq [0, 4, 8, 48] (by rfl) fun K hK => ?_
    simp (decide := true) only [ev, absV, absS, putD, Slots.put, Slots.get, if_true, if_false, true_and, ↓ap_move, pop_move, ↓ap_binOp, pop_binOp, isNilC_int, cond_false, pBinX_int, pI_eql, ↓ag_move, agP, agQ_some, nthDst, gKnown_bool, guardB_bool_false, implies_true, ↓ag_binOp, cv_binl, cp_binl, pI_sub]
    try simp (disch := omega) only [wrap_i64]
    repeat (with_reducible refine And.intro ?_ ?_; · first | trivial | omega | (intro hg; simp only [Bool.and_eq_true, Bool.or_eq_true, Bool.not_eq_true', Bool.and_eq_false_iff, Bool.or_eq_false_iff, Bool.not_eq_false', decide_eq_true_eq, decide_eq_false_iff_not, eqNil] at hg; omega) )
    first
    | (refine aOps_yes (by rfl) ?_; refine aOps_callV (V := .int .u8 (peekE s ((i : Int) + m - 1)).toNat) (by rfl) (by rfl) (by have := c_peek w₀ B kx lf s mv tv i ((m : Int) - 1) eb_x (by omega) (by omega) (by omega); rwa [← Int.add_sub_assoc] at this) ?_)
    | (refine aOps_no (by rfl) (by rfl) ?_)
    | (refine aOps_gcall (V := .int .u8 (peekE s ((i : Int) + m - 1)).toNat) (f := _) (cap := _) (xs := _) (by first | rfl | (simp (decide := true) only [gv, nthDst, Slots.get, if_true, if_false, gKnown_cond, gKnown_bool])) (fun hg => ⟨rfl, ?_⟩) (fun hg => by have := c_peek w₀ B kx lf s mv tv i ((m : Int) - 1) eb_x (by omega) (by omega) (by omega); rwa [← Int.add_sub_assoc] at this) ?_; · (simp (decide := true) only [gv, nthDst, Slots.get, if_true, if_false, guardB_bool_false] at hg; simp (decide := true) only [evs, ev, Slots.get, if_true, if_false, hg, condV_true, List.append_nil, List.map_cons, List.map_nil] <;> try rfl))
    try simp (decide := true) only [putD, Slots.put, Slots.get, if_true, if_false, gv, nthDst, guardB_bool_false]
    first
    | (refine aOps_yes (by rfl) ?_; refine aOps_callV (V := .bool (endsB (peekE s ((i : Int) + m - 1)))) (by rfl) (by rfl) (f_ends w₀ _ _) ?_)
    | (refine aOps_no (by rfl) (by rfl) ?_)
    | (refine aOps_gcall (V := .bool (endsB (peekE s ((i : Int) + m - 1)))) (f := _) (cap := _) (xs := _) (by first | rfl | (simp (decide := true) only [gv, nthDst, Slots.get, if_true, if_false, gKnown_cond, gKnown_bool])) (fun hg => ⟨by (try simp (decide := true) only [gv, nthDst, Slots.get, if_true, if_false, guardB_bool_false] at hg); simp (decide := true) only [ev, Slots.get, if_true, if_false, hg, condV_true]; try rfl, ?_⟩) (fun hg => f_ends w₀ _ _) ?_; · (simp (decide := true) only [gv, nthDst, Slots.get, if_true, if_false, guardB_bool_false] at hg; simp (decide := true) only [evs, ev, Slots.get, if_true, if_false, hg, condV_true, List.append_nil, List.map_cons, List.map_nil] <;> try rfl))
    simp (decide := true) only [aOps_nil, ev, absV, absS, putD, Slots.put, Slots.get, Slots.keep, if_true, if_false, true_and, gv, nthDst, guardB_bool_false, ↓ap_pick, pop_pick, pPick_bool, pickV_cond_r, pickV_or]
    repeat (with_reducible refine And.intro ?_ ?_; · first | trivial | omega | (intro hg; simp only [Bool.and_eq_true, Bool.or_eq_true, Bool.not_eq_true', Bool.and_eq_false_iff, Bool.or_eq_false_iff, Bool.not_eq_false', decide_eq_true_eq, decide_eq_false_iff_not, eqNil] at hg; omega) )
    apply hK; clear hK K
    refine awp_cond (b := _) rfl (fun hb2 => ?_) (fun hb2 => ?_)
    · try simp only [decide_eq_true_eq, Bool.or_eq_true] at hb2
      have hb2' : m = 0 ∨ endsB (peekE s ((i : Int) + m - 1)) = true := hb2.imp (fun q => by omega) id
      rw [if_pos hb2']
      -- region 8  tokens.go:96
      refine awp_rseq [4, 5, 6] (by rfl) fun K hK => ?_
      simp (decide := true) only [ev, absV, absS, putD, Slots.put, Slots.get, if_false, true_and, ↓ap_build, ↓pop_buildL, bld35_, evP, List.map_nil]
      repeat (with_reducible refine And.intro ?_ ?_; · first | trivial | omega | (intro hg; simp only [Bool.and_eq_true, Bool.or_eq_true, Bool.not_eq_true', Bool.and_eq_false_iff, Bool.or_eq_false_iff, Bool.not_eq_false', decide_eq_true_eq, decide_eq_false_iff_not, eqNil] at hg; omega) )
      refine aOps_store (by rfl) (by rfl) (by repeat (first | exact AHeap.set_same _ _ _ | assumption | refine (AHeap.set_ne _ _ (by first | assumption | exact Ne.symm (by assumption))).trans ?_)) sz35 (by rfl) (by rfl) (by first | exact Nat.le_refl _ | decide | (simp; done) | (simp; omega)) (Nat.zero_le _) (by rfl) ?_
      simp only [AVal.cells]
      simp (decide := true) only [aOps_nil, ev, absV, absS, putD, Slots.put, Slots.get, Slots.keep, if_true, if_false, true_and, ↓ap_assign, pop_assign, setAt, List.set_cons_zero, List.set_cons_succ, Nat.zero_add, Nat.reduceAdd]
      repeat (with_reducible refine And.intro ?_ ?_; · first | trivial | omega | (intro hg; simp only [Bool.and_eq_true, Bool.or_eq_true, Bool.not_eq_true', Bool.and_eq_false_iff, Bool.or_eq_false_iff, Bool.not_eq_false', decide_eq_true_eq, decide_eq_false_iff_not, eqNil] at hg; omega) )
      apply hK; clear hK K
      refine awp_ret ?_
      try simp only [thenA_ret]
      refine retA_ret h (by repeat (first | exact Sub.refl _ | assumption | refine Sub.trans_set ?_ (by assumption))) (?_) ?_
      · simp (decide := true) only [resPre, resV_tmp, resV_cell, Slots.get, if_true, if_false, and_true, resV_tmp, resV_cell, pLoad_agg ag35 sz35, rd_set, cellsAt, List.getD_cons_zero, List.getD_cons_succ, Nat.zero_add, Nat.reduceAdd, lv_bool, lv_int, lv_str, allLive, Bool.and_true, cellsAt, List.getD_cons_zero, List.getD_cons_succ, Nat.zero_add, Nat.reduceAdd, lv_bool, lv_int, lv_str, allLive, Bool.and_true]
      
      simp (decide := true) only [Slots.get, if_true, if_false, and_true, resOfG_three, resV_tmp, resV_cell, pLoad_agg ag35 sz35, rd_set, cellsAt, List.getD_cons_zero, List.getD_cons_succ, Nat.zero_add, Nat.reduceAdd, lv_bool, lv_int, lv_str, allLive, Bool.and_true, cellsAt, List.getD_cons_zero, List.getD_cons_succ, Nat.zero_add, Nat.reduceAdd, lv_bool, lv_int, lv_str, allLive, Bool.and_true, nxA, nxR]
      all_goals first | rfl | exact ⟨rfl, rfl⟩ | (simp (decide := true) only [if_true, if_false, *]; done) | (trace_state; fail)
    · try simp only [decide_eq_false_iff_not, Bool.or_eq_false_iff] at hb2
      have hb2' : ¬ (m = 0 ∨ endsB (peekE s ((i : Int) + m - 1)) = true) := fun q => q.elim (fun q => hb2.1 (by omega)) (fun q => by rw [hb2.2] at q; cases q)
      rw [if_neg hb2']
      refine awp_skip ?_
      change Awp _ _ _ _ _ _ _
      -- region 9  tokens.go:98
      refine awp_rseq [4, 8, 9, 10] (by rfl) fun K hK => ?_
      simp (decide := true) only [ev, putD, Slots.put, Slots.get, if_true, if_false, true_and, ↓ap_move, pop_move]
      repeat (with_reducible refine And.intro ?_ ?_; · first | trivial | omega | (intro hg; simp only [Bool.and_eq_true, Bool.or_eq_true, Bool.not_eq_true', Bool.and_eq_false_iff, Bool.or_eq_false_iff, Bool.not_eq_false', decide_eq_true_eq, decide_eq_false_iff_not, eqNil] at hg; omega) )
      refine aOps_callV (V := nxR (takeE s i 4 m)) (by rfl) (by rfl) (c_takeT w₀ B kx lf s mv tv i m 4 eb_x (by omega) hs) ?_
      simp (decide := true) only [ev, putD, Slots.put, Slots.get, if_true, if_false, true_and, ↓ap_move, pop_move, ↓ap_extract, pop_extract, pExt_tuple, List.length_cons, List.length_nil, List.getD_cons_zero, List.getD_cons_succ, List.getD_cons_zero, List.getD_cons_succ, Nat.zero_add, Nat.reduceAdd, nxA, nxR]
      repeat (with_reducible refine And.intro ?_ ?_; · first | trivial | omega | (intro hg; simp only [Bool.and_eq_true, Bool.or_eq_true, Bool.not_eq_true', Bool.and_eq_false_iff, Bool.or_eq_false_iff, Bool.not_eq_false', decide_eq_true_eq, decide_eq_false_iff_not, eqNil] at hg; omega) )
      refine aOps_alloc ze35 (cs := [.int .u8 0, .str [], .int .i64 0, .int .i64 0, .bool false]) (by rfl) fun k9q7 hk9q7 => ?_
      have hn_9q7 : B k9q7 = none := by first | assumption | (simp only [AHeap.set_none] at hk9q7; simp only [hk9q7])
      have hf_9q7 : h k9q7 = none := Sub.none hs_B hn_9q7
      have ne_9q7_x : k9q7 ≠ kx := AHeap.ne_some hn_9q7 eb_x
      have ne_9q7_0q0 : k9q7 ≠ k0q0 := AHeap.ne_some hn_9q7 eb_0q0
      refine aOps_store (by rfl) (by rfl) (by repeat (first | exact AHeap.set_same _ _ _ | assumption | refine (AHeap.set_ne _ _ (by first | assumption | exact Ne.symm (by assumption))).trans ?_)) sz35 (by rfl) (by rfl) (by first | exact Nat.le_refl _ | decide | (simp; done) | (simp; omega)) (Nat.zero_le _) (by rfl) ?_
      simp only [AHeap.set_set, AVal.cells]
      simp (decide := true) only [aOps_nil, ev, putD, Slots.put, Slots.get, Slots.keep, if_true, if_false, true_and, ↓ap_assign, pop_assign, setAt, List.set_cons_zero, List.set_cons_succ, Nat.zero_add, Nat.reduceAdd]
      repeat (with_reducible refine And.intro ?_ ?_; · first | trivial | omega | (intro hg; simp only [Bool.and_eq_true, Bool.or_eq_true, Bool.not_eq_true', Bool.and_eq_false_iff, Bool.or_eq_false_iff, Bool.not_eq_false', decide_eq_true_eq, decide_eq_false_iff_not, eqNil] at hg; omega) )
      apply hK; clear hK K
      -- region 10  tokens.go:99
      refine awp_rseq [4, 8, 9, 10] (by rfl) fun K hK => ?_
      simp (decide := true) only [ev, putD, Slots.put, Slots.get, if_true, if_false, true_and, ↓ap_fieldAddr, pop_fieldAddr, fa35_1, ↓ap_loadL, apL_mk, pLoad_one ag9, rd_any, List.getD_cons_zero, List.getD_cons_succ, Nat.zero_add, lv_str]
      repeat (with_reducible refine And.intro ?_ ?_; · first | trivial | omega | (intro hg; simp only [Bool.and_eq_true, Bool.or_eq_true, Bool.not_eq_true', Bool.and_eq_false_iff, Bool.or_eq_false_iff, Bool.not_eq_false', decide_eq_true_eq, decide_eq_false_iff_not, eqNil] at hg; omega) )
      refine aOps_callV (V := .str (foldE ((s.drop i).take m))) (by rfl) (by rfl) (by rw [← fold_eq]; exact c_fold w₀ _ ((s.drop i).take m) (by rw [List.length_take]; omega)) ?_
      simp (decide := true) only [ev, putD, Slots.put, Slots.get, if_true, if_false, true_and, ↓ap_fieldAddr, pop_fieldAddr, fa35_1, Nat.zero_add]
      repeat (with_reducible refine And.intro ?_ ?_; · first | trivial | omega | (intro hg; simp only [Bool.and_eq_true, Bool.or_eq_true, Bool.not_eq_true', Bool.and_eq_false_iff, Bool.or_eq_false_iff, Bool.not_eq_false', decide_eq_true_eq, decide_eq_false_iff_not, eqNil] at hg; omega) )
      refine aOps_store (by rfl) (by rfl) (by repeat (first | exact AHeap.set_same _ _ _ | assumption | refine (AHeap.set_ne _ _ (by first | assumption | exact Ne.symm (by assumption))).trans ?_)) sz9 (by rfl) (by rfl) (by first | exact Nat.le_refl _ | decide | (simp; done) | (simp; omega)) (Nat.zero_le _) (by rfl) ?_
      simp only [AHeap.set_set, AVal.cells]
      simp (decide := true) only [aOps_nil, ev, putD, Slots.get, Slots.keep, if_true, if_false, setAt, List.set_cons_zero, List.set_cons_succ]
      repeat (with_reducible refine And.intro ?_ ?_; · first | trivial | omega | (intro hg; simp only [Bool.and_eq_true, Bool.or_eq_true, Bool.not_eq_true', Bool.and_eq_false_iff, Bool.or_eq_false_iff, Bool.not_eq_false', decide_eq_true_eq, decide_eq_false_iff_not, eqNil] at hg; omega) )
      apply hK; clear hK K
      refine awp_seq ?_
      -- region 11  tokens.go:100
      refine awp_rseq [4, 8, 9, 10, 63] (by rfl) fun K hK => ?_
      simp (decide := true) only [ev, putD, Slots.put, Slots.get, if_true, if_false, true_and, ↓ap_fieldAddr, pop_fieldAddr, fa35_1, ↓ap_loadL, apL_mk, pLoad_one ag9, rd_any, List.getD_cons_zero, List.getD_cons_succ, Nat.zero_add, lv_str]
      repeat (with_reducible refine And.intro ?_ ?_; · first | trivial | omega | (intro hg; simp only [Bool.and_eq_true, Bool.or_eq_true, Bool.not_eq_true', Bool.and_eq_false_iff, Bool.or_eq_false_iff, Bool.not_eq_false', decide_eq_true_eq, decide_eq_false_iff_not, eqNil] at hg; omega) )
      refine aOps_callV (V := .bool ((foldE ((s.drop i).take m)).contains 34)) (by rfl) (by rfl) (c_hasQ w₀ _ _ 34) ?_
      simp (decide := true) only [aOps_nil, putD, Slots.put, Slots.keep, if_true, if_false]
      repeat (with_reducible refine And.intro ?_ ?_; · first | trivial | omega | (intro hg; simp only [Bool.and_eq_true, Bool.or_eq_true, Bool.not_eq_true', Bool.and_eq_false_iff, Bool.or_eq_false_iff, Bool.not_eq_false', decide_eq_true_eq, decide_eq_false_iff_not, eqNil] at hg; omega) )
      apply hK; clear hK K
      refine awp_cond (b := _) rfl (fun hb3 => ?_) (fun hb3 => ?_)
      · try simp only [decide_eq_true_eq, decide_eq_false_iff_not, Bool.not_eq_true', Bool.not_eq_false', Bool.and_eq_true, Bool.and_eq_false_iff, Bool.or_eq_true, Bool.or_eq_false_iff, Bool.true_eq, Bool.false_eq, reduceCtorEq] at hb3
        -- region 12  tokens.go:101
        refine awp_rseq [4, 5, 6] (by rfl) fun K hK => ?_
        simp (decide := true) only [ev, absV, absS, putD, Slots.put, Slots.get, if_false, true_and, ↓ap_build, ↓pop_buildL, bld35_, evP, List.map_nil]
        repeat (with_reducible refine And.intro ?_ ?_; · first | trivial | omega | (intro hg; simp only [Bool.and_eq_true, Bool.or_eq_true, Bool.not_eq_true', Bool.and_eq_false_iff, Bool.or_eq_false_iff, Bool.not_eq_false', decide_eq_true_eq, decide_eq_false_iff_not, eqNil] at hg; omega) )
        refine aOps_store (by rfl) (by rfl) (by repeat (first | exact AHeap.set_same _ _ _ | assumption | refine (AHeap.set_ne _ _ (by first | assumption | exact Ne.symm (by assumption))).trans ?_)) sz35 (by rfl) (by rfl) (by first | exact Nat.le_refl _ | decide | (simp; done) | (simp; omega)) (Nat.zero_le _) (by rfl) ?_
        simp only [AVal.cells]
        simp (decide := true) only [aOps_nil, ev, absV, absS, putD, Slots.put, Slots.get, Slots.keep, if_true, if_false, true_and, ↓ap_assign, pop_assign, setAt, List.set_cons_zero, List.set_cons_succ, Nat.zero_add, Nat.reduceAdd]
        repeat (with_reducible refine And.intro ?_ ?_; · first | trivial | omega | (intro hg; simp only [Bool.and_eq_true, Bool.or_eq_true, Bool.not_eq_true', Bool.and_eq_false_iff, Bool.or_eq_false_iff, Bool.not_eq_false', decide_eq_true_eq, decide_eq_false_iff_not, eqNil] at hg; omega) )
        apply hK; clear hK K
        refine awp_ret ?_
        try simp only [thenA_ret]
        refine retA_ret h (by repeat (first | exact Sub.refl _ | assumption | refine Sub.trans_set ?_ (by assumption))) (?_) ?_
        · simp (decide := true) only [resPre, resV_tmp, resV_cell, Slots.get, if_true, if_false, and_true, resV_tmp, resV_cell, pLoad_agg ag35 sz35, rd_set, cellsAt, List.getD_cons_zero, List.getD_cons_succ, Nat.zero_add, Nat.reduceAdd, lv_bool, lv_int, lv_str, allLive, Bool.and_true, cellsAt, List.getD_cons_zero, List.getD_cons_succ, Nat.zero_add, Nat.reduceAdd, lv_bool, lv_int, lv_str, allLive, Bool.and_true]
        
        simp (decide := true) only [Slots.get, if_true, if_false, and_true, resOfG_three, resV_tmp, resV_cell, pLoad_agg ag35 sz35, rd_set, cellsAt, List.getD_cons_zero, List.getD_cons_succ, Nat.zero_add, Nat.reduceAdd, lv_bool, lv_int, lv_str, allLive, Bool.and_true, cellsAt, List.getD_cons_zero, List.getD_cons_succ, Nat.zero_add, Nat.reduceAdd, lv_bool, lv_int, lv_str, allLive, Bool.and_true, nxA, nxR]
        rw [if_pos hb3]
        rfl
      · try simp only [decide_eq_true_eq, decide_eq_false_iff_not, Bool.not_eq_true', Bool.not_eq_false', Bool.and_eq_true, Bool.and_eq_false_iff, Bool.or_eq_true, Bool.or_eq_false_iff, Bool.true_eq, Bool.false_eq, reduceCtorEq] at hb3
        refine awp_skip ?_
        change Awp _ _ _ _ _ _ _
        -- region 13  tokens.go:103
        refine awp_rseq [4, 5, 6] (by rfl) fun K hK => ?_
        simp (decide := true) only [ev, putD, Slots.put, Slots.get, if_true, if_false, true_and, ↓ap_loadL, apL_mk, pLoad_agg ag35 sz35, ↓ap_move, pop_move, rd_any, cellsAt, List.getD_cons_zero, List.getD_cons_succ, Nat.zero_add, Nat.reduceAdd, lv_bool, lv_int, lv_str, allLive, Bool.and_true]
        repeat (with_reducible refine And.intro ?_ ?_; · first | trivial | omega | (intro hg; simp only [Bool.and_eq_true, Bool.or_eq_true, Bool.not_eq_true', Bool.and_eq_false_iff, Bool.or_eq_false_iff, Bool.not_eq_false', decide_eq_true_eq, decide_eq_false_iff_not, eqNil] at hg; omega) )
        refine aOps_store (by rfl) (by rfl) (by repeat (first | exact AHeap.set_same _ _ _ | assumption | refine (AHeap.set_ne _ _ (by first | assumption | exact Ne.symm (by assumption))).trans ?_)) sz35 (by rfl) (by rfl) (by first | exact Nat.le_refl _ | decide | (simp; done) | (simp; omega)) (Nat.zero_le _) (by rfl) ?_
        simp only [AVal.cells]
        simp (decide := true) only [aOps_nil, ev, putD, Slots.put, Slots.get, Slots.keep, if_true, if_false, true_and, ↓ap_assign, pop_assign, setAt, List.set_cons_zero, List.set_cons_succ, Nat.zero_add, Nat.reduceAdd]
        repeat (with_reducible refine And.intro ?_ ?_; · first | trivial | omega | (intro hg; simp only [Bool.and_eq_true, Bool.or_eq_true, Bool.not_eq_true', Bool.and_eq_false_iff, Bool.or_eq_false_iff, Bool.not_eq_false', decide_eq_true_eq, decide_eq_false_iff_not, eqNil] at hg; omega) )
        apply hK; clear hK K
        refine awp_ret ?_
        try simp only [thenA_ret, inBlockA_ret]
        refine retA_ret h (by repeat (first | exact Sub.refl _ | assumption | refine Sub.trans_set ?_ (by assumption))) (?_) ?_
        · simp (decide := true) only [resPre, resV_tmp, resV_cell, Slots.get, if_true, if_false, and_true, resV_tmp, resV_cell, pLoad_agg ag35 sz35, rd_set, cellsAt, List.getD_cons_zero, List.getD_cons_succ, Nat.zero_add, Nat.reduceAdd, lv_bool, lv_int, lv_str, allLive, Bool.and_true, cellsAt, List.getD_cons_zero, List.getD_cons_succ, Nat.zero_add, Nat.reduceAdd, lv_bool, lv_int, lv_str, allLive, Bool.and_true]
        
        simp (decide := true) only [Slots.get, if_true, if_false, and_true, resOfG_three, resV_tmp, resV_cell, pLoad_agg ag35 sz35, rd_set, cellsAt, List.getD_cons_zero, List.getD_cons_succ, Nat.zero_add, Nat.reduceAdd, lv_bool, lv_int, lv_str, allLive, Bool.and_true, cellsAt, List.getD_cons_zero, List.getD_cons_succ, Nat.zero_add, Nat.reduceAdd, lv_bool, lv_int, lv_str, allLive, Bool.and_true, nxA, nxR]
        rw [if_neg (by rw [hb3]; decide)]
        rfl
end Go.Proofs.YtmadddihphkmoaaDoor

