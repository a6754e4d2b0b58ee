/-
  Texts of this proof, joined: CoD, CoE, CoF, CoG, CoH, CoI.
  Conditions: none.
-/
import Derived.Test.YtikpnhdjjabdmaaDoorWb
set_option linter.unusedSimpArgs false
set_option linter.unnecessarySimpa false
set_option linter.unusedVariables false
/-
  Contracts: open, read, add of the package columns.
  Conditions: none.
-/
namespace Go.Proofs.YtikpnhdjjabdmaaDoor
open Go.AM
open Go.Proofs
open Go.Col
set_option maxRecDepth 100000

def rowA (r : RowC) : AVal := .agg [.int .i64 r.line, .bool r.more, .str r.text, .int .i64 r.col]
theorem quotes_le (s : Str) : quotes s ≤ s.length := List.countP_le_length
theorem c_open (w₀ : World) (h : AHeap) (s : Str) (hl : s.length ≤ 4611686018427387904) : ACall Tryd.prog w₀ 25 [.str s] h (fun v h' => v = .bool (oddQ s) ∧ h' = h) := by
  have hq := quotes_le s
  refine acall_intro (n := 7) (rs := [.tmp 2]) Tryd.func25 rfl rfl rfl rfl (Nat.le_of_ble_eq_true rfl) ?_
  simp only [initSlots]
  -- region 0  columns.go:41
  refine awp_rseq [0] (by rfl) fun K hK => ?_
  simp (decide := true) only [aOps_nil, ev, absV, absS, putD, Slots.put, Slots.keep, if_true, if_false, true_and, ↓ap_assign, pop_assign]
  repeat (with_reducible refine And.intro ?_ ?_; · first | trivial | omega | (intro hg; simp only [Bool.and_eq_true, Bool.or_eq_true, Bool.not_eq_true', Bool.and_eq_false_iff, Bool.or_eq_false_iff, Bool.not_eq_false', decide_eq_true_eq, decide_eq_false_iff_not, eqNil] at hg; omega) )
  apply hK; clear hK K
  -- region 1  columns.go:41
  refine awp_rseq [2] (by rfl) fun K hK => ?_
  simp (decide := true) only [ev, putD, Slots.put, Slots.get, if_true, if_false, true_and, ↓ap_move, pop_move]
  repeat (with_reducible refine And.intro ?_ ?_; · first | trivial | omega | (intro hg; simp only [Bool.and_eq_true, Bool.or_eq_true, Bool.not_eq_true', Bool.and_eq_false_iff, Bool.or_eq_false_iff, Bool.not_eq_false', decide_eq_true_eq, decide_eq_false_iff_not, eqNil] at hg; omega) )
  refine aOps_callV (V := .int .i64 (quotes s)) (by rfl) (by rfl) (c_count w₀ _ s 34) ?_
  simp (decide := true) only [aOps_nil, ev, absV, absS, putD, Slots.put, Slots.get, Slots.keep, if_true, if_false, true_and, ↓ap_binOp, pop_binOp, isNilC_int, cond_false, pBinX_int, pI_rem, pI_eql, ↓ap_assign, pop_assign]
  repeat (with_reducible refine And.intro ?_ ?_; · first | trivial | omega | (intro hg; simp only [Bool.and_eq_true, Bool.or_eq_true, Bool.not_eq_true', Bool.and_eq_false_iff, Bool.or_eq_false_iff, Bool.not_eq_false', decide_eq_true_eq, decide_eq_false_iff_not, eqNil] at hg; omega) )
  apply hK; clear hK K
  refine awp_ret ?_
  try simp only [thenA_ret, inBlockA_ret]
  refine retA_ret _ (Sub.refl _) (resPre_tmp (resPre_nil)) ?_
  simp (decide := true) only [Slots.get, if_true, and_true, resOf_one]
  unfold oddQ
  congr 1
  rw [Int.tmod_eq_emod_of_nonneg (by omega)]
  apply decide_eq_decide.2
  omega

theorem dropWhile_le (p : UInt8 → Bool) (s : Str) : (s.dropWhile p).length ≤ s.length := (List.dropWhile_sublist p).length_le
theorem trimR_le (s : Str) : (trimR s).length ≤ s.length := by
  unfold trimR
  rw [List.length_reverse]
  exact Nat.le_trans (dropWhile_le _ _) (by rw [List.length_reverse]; exact Nat.le_refl _)
theorem c_add (w₀ : World) (H : AHeap) (kx kc : Nat) (D : List AVal) (m : Nat) (mb : Option Buf) (c : CardC) (xl xc : Int) (xo : Bool) (line col : Int) (t : Str)
    (hkx : H kx = some ⟨[.slice (.own kc) 0 (m + 1) (.grow 3), .int .i64 xl, .int .i64 xc, .bool xo], 0⟩) (hkc : H kc = some ⟨D ++ [.bool c.left, .str c.text, bufV 3 mb], 0⟩) (hD : D.length = m * 3)
    (hok : bufOk H 3 mb) (hmb : bufC mb = (c.marks.map markC).flatten) (hl : c.text.length + t.length ≤ 1099511627776) (hml : c.marks.length ≤ 1099511627776) (hmm : m ≤ 1099511627776) :
    ACall Tryd.prog w₀ 56 [.ptr (.own kx) 0, .int .i64 line, .int .i64 col, .str t] (bufH H mb)
      (fun v h' => v = .tuple [] ∧ ∃ mb', h' = bufH ((H.set kx ⟨[.slice (.own kc) 0 (m + 1) (.grow 3), .int .i64 line, .int .i64 col, .bool (oddQ (c.text ++ t))], 0⟩).set kc ⟨D ++ [.bool c.left, .str (addC c line col t).text, bufV 3 mb'], 0⟩) mb' ∧
        bufOk ((H.set kx ⟨[.slice (.own kc) 0 (m + 1) (.grow 3), .int .i64 line, .int .i64 col, .bool (oddQ (c.text ++ t))], 0⟩).set kc ⟨D ++ [.bool c.left, .str (addC c line col t).text, bufV 3 mb'], 0⟩) 3 mb' ∧ bufC mb' = ((addC c line col t).marks.map markC).flatten) := by
  have hne : kx ≠ kc := fun e => by
    subst e
    rw [hkx] at hkc
    have := congrArg (fun o => (o.map fun b => b.cells.length).getD 0) hkc
    simp [hD] at this
    omega
  have rx := rdBuf w₀ hok hkx
  have rc := rdBuf w₀ hok hkc
  have hidx : ((((m + 1 : Nat) : Int)) - 1).toNat = m := by omega
  have hlv := bufV_live 3 mb
  refine acall_intro (n := 72) (rs := []) Tryd.func56 rfl rfl rfl rfl (Nat.le_of_ble_eq_true rfl) ?_
  simp only [initSlots]
  -- region 0  columns.go:89
  refine awp_dseq_all [0, 1, 2, 3, 8] mixed (by kernel_rfl) (by rfl) (by rfl) fun K hK => ?_
  simp (decide := true) only [ev, absV, absS, putD, Slots.put, Slots.get, if_true, if_false, true_and, ↓ap_move, pop_move, ↓ap_nilCheck, pop_nilCheck, pNil_ptr, ↓ap_fieldAddr, pop_fieldAddr, fa71_0, ↓ap_loadL, apL_mk, pLoad_one ag30, ↓ap_len, pop_len, pLen_slice Tryd.underlying30, ↓ap_binOp, pop_binOp, isNilC_int, cond_false, pBinX_int, pI_sub, List.getD_cons_zero, Nat.zero_add, Nat.reduceAdd, lv_slice, rx]
  try simp (disch := omega) only [wrap_i64]
  try simp (decide := true) only [aOps_nil, ev, putD, Slots.put, Slots.get, Slots.keep, if_true, if_false, true_and, ↓ap_indexAddrL, apL_mk, pIndexAddr_slice Tryd.underlying30 sz39, ↓ap_assign, pop_assign, Nat.zero_add, hidx]
  repeat (with_reducible refine And.intro ?_ ?_; · first | trivial | omega | (intro hg; simp only [Bool.and_eq_true, Bool.or_eq_true, Bool.not_eq_true', Bool.and_eq_false_iff, Bool.or_eq_false_iff, Bool.not_eq_false', decide_eq_true_eq, decide_eq_false_iff_not, eqNil] at hg; omega) )
  apply hK; clear hK K
  -- region 1  columns.go:90
  refine awp_rseq [0, 1, 2, 3, 8] (by rfl) fun K hK => ?_
  simp (decide := true) only [ev, putD, Slots.put, Slots.get, if_true, if_false, true_and, ↓ap_move, pop_move, ↓ap_nilCheck, pop_nilCheck, pNil_ptr, ↓ap_fieldAddr, pop_fieldAddr, fa39_1, ↓ap_loadL, apL_mk, pLoad_one ag9, ↓ap_binOp, pop_binOp, isNilC_tmp, cond_false, pBinX_str, pS_add, List.getD_cons_zero, List.getD_cons_succ, lv_str, rc, getD_app hD]
  repeat (with_reducible refine And.intro ?_ ?_; · first | trivial | omega | (intro hg; simp only [Bool.and_eq_true, Bool.or_eq_true, Bool.not_eq_true', Bool.and_eq_false_iff, Bool.or_eq_false_iff, Bool.not_eq_false', decide_eq_true_eq, decide_eq_false_iff_not, eqNil] at hg; omega) )
  refine aOps_callV (V := .bool (oddQ (c.text ++ t))) (by rfl) (by rfl) (c_open w₀ _ _ (by simp; omega)) ?_
  simp (decide := true) only [ev, putD, Slots.put, Slots.get, if_true, if_false, true_and, ↓ap_nilCheck, pop_nilCheck, pNil_ptr, ↓ap_fieldAddr, pop_fieldAddr, fa71_2, Nat.zero_add]
  repeat (with_reducible refine And.intro ?_ ?_; · first | trivial | omega | (intro hg; simp only [Bool.and_eq_true, Bool.or_eq_true, Bool.not_eq_true', Bool.and_eq_false_iff, Bool.or_eq_false_iff, Bool.not_eq_false', decide_eq_true_eq, decide_eq_false_iff_not, eqNil] at hg; omega) )
  refine aOps_store (v := .bool (oddQ (c.text ++ t))) (by rfl) (by rfl) (bufAt hok hkx) sz4 (by rfl) (by rfl) (by simp) (Nat.zero_le _) (by rfl) ?_
  simp only [setAt, AVal.cells, List.set_cons_zero, List.set_cons_succ]
  rw [bufSet hok hkx]
  simp (decide := true) only [aOps_nil, putD, Slots.keep, if_true, if_false]
  have hok1 := bufOkSet hok hkx ⟨[.slice (.own kc) 0 (m + 1) (.grow 3), .int .i64 xl, .int .i64 xc, .bool (oddQ (c.text ++ t))], 0⟩
  have hkx1 := AHeap.set_same H kx ⟨[.slice (.own kc) 0 (m + 1) (.grow 3), .int .i64 xl, .int .i64 xc, .bool (oddQ (c.text ++ t))], 0⟩
  have hkc1 := (AHeap.set_ne H ⟨[.slice (.own kc) 0 (m + 1) (.grow 3), .int .i64 xl, .int .i64 xc, .bool (oddQ (c.text ++ t))], 0⟩ hne.symm).trans hkc
  have rx1 := rdBuf w₀ hok1 hkx1
  apply hK; clear hK K
  refine awp_seq ?_
  -- region 2  columns.go:91
  refine awp_rseq [0, 1, 2, 3, 8, 34] (by rfl) fun K hK => ?_
  simp (decide := true) only [aOps_nil, ev, putD, Slots.put, Slots.get, Slots.keep, if_true, if_false, true_and, ↓ap_move, pop_move, ↓ap_nilCheck, pop_nilCheck, pNil_ptr, ↓ap_fieldAddr, pop_fieldAddr, fa71_2, ↓ap_loadL, apL_mk, pLoad_one ag4, ↓ap_unOp, pop_unOp, pU_not, List.getD_cons_zero, List.getD_cons_succ, Nat.zero_add, lv_bool, rx1]
  try simp (disch := omega) only [wrap_i64, wrap_u8]
  repeat (with_reducible refine And.intro ?_ ?_; · first | trivial | omega | (intro hg; simp only [Bool.and_eq_true, Bool.or_eq_true, Bool.not_eq_true', Bool.and_eq_false_iff, Bool.or_eq_false_iff, Bool.not_eq_false', decide_eq_true_eq, decide_eq_false_iff_not, eqNil] at hg; omega) )
  apply hK; clear hK K
  refine awp_joinT [0, 1, 2, 3, 8] (fun t' : Str => [(0, .ptr (.own kx) 0), (1, .int .i64 line), (2, .int .i64 col), (3, .str t'), (8, .ptr (.own kc) (m * 3))]) (fun t' : Str => bufH (H.set kx ⟨[.slice (.own kc) 0 (m + 1) (.grow 3), .int .i64 xl, .int .i64 xc, .bool (oddQ (c.text ++ t))], 0⟩) mb) (fun t' : Str => t' = if oddQ (c.text ++ t) = true then t else trimR t) ?_ ?_
  · refine awp_cond (b := _) rfl (fun hb1 => ?_) (fun hb1 => ?_)
    · try simp only [Bool.not_eq_true'] at hb1
      -- region 3  columns.go:92
      refine awp_r [0, 1, 2, 3, 8] (by rfl) ?_
      simp (decide := true) only [ev, putD, Slots.put, Slots.get, if_true, if_false, true_and, ↓ap_move, pop_move]
      repeat (with_reducible refine And.intro ?_ ?_; · first | trivial | omega | (intro hg; simp only [Bool.and_eq_true, Bool.or_eq_true, Bool.not_eq_true', Bool.and_eq_false_iff, Bool.or_eq_false_iff, Bool.not_eq_false', decide_eq_true_eq, decide_eq_false_iff_not, eqNil] at hg; omega) )
      refine aOps_callV (V := .str (trimR t)) (by rfl) (by rfl) (c_trimR w₀ _ t (by omega)) ?_
      simp (decide := true) only [aOps_nil, ev, putD, Slots.put, Slots.get, Slots.keep, if_true, if_false, true_and, ↓ap_assign, pop_assign]
      repeat (with_reducible refine And.intro ?_ ?_; · first | trivial | omega | (intro hg; simp only [Bool.and_eq_true, Bool.or_eq_true, Bool.not_eq_true', Bool.and_eq_false_iff, Bool.or_eq_false_iff, Bool.not_eq_false', decide_eq_true_eq, decide_eq_false_iff_not, eqNil] at hg; omega) )
      try simp only [thenA_normal]
      first | exact ⟨trimR t, rfl, Sub.refl _, by rw [hb1]; rfl⟩ | exact ⟨t, rfl, Sub.refl _, by rw [hb1]; rfl⟩
    · try simp only [Bool.not_eq_false'] at hb1
      refine awp_skip ?_
      try simp only [thenA_normal]
      first | exact ⟨trimR t, rfl, Sub.refl _, by rw [hb1]; rfl⟩ | exact ⟨t, rfl, Sub.refl _, by rw [hb1]; rfl⟩
  · intro t' ht'
    have htl : t'.length ≤ t.length := by
      rw [ht']
      have := trimR_le t
      split <;> omega
    have ha : addC c line col t = ⟨c.left, c.text ++ t', if t' = [] then c.marks else c.marks ++ [⟨c.text.length, line, col⟩]⟩ := by rw [ht']; rfl
    -- region 4  columns.go:94
    refine awp_rseq [0, 3, 8] (by rfl) fun K hK => ?_
    simp (decide := true) only [ev, absV, absS, putD, Slots.put, Slots.get, if_true, if_false, true_and, ↓ap_move, pop_move, ↓ap_build, ↓pop_buildL, bld32_0_1, evP, List.map_cons, List.map_nil, ↓ap_nilCheck, pop_nilCheck, pNil_ptr, ↓ap_fieldAddr, pop_fieldAddr, fa71_1, Nat.zero_add]
    repeat (with_reducible refine And.intro ?_ ?_; · first | trivial | omega | (intro hg; simp only [Bool.and_eq_true, Bool.or_eq_true, Bool.not_eq_true', Bool.and_eq_false_iff, Bool.or_eq_false_iff, Bool.not_eq_false', decide_eq_true_eq, decide_eq_false_iff_not, eqNil] at hg; omega) )
    refine aOps_store (v := .agg [.int .i64 line, .int .i64 col]) (by rfl) (by rfl) (bufAt hok1 hkx1) sz32 (by rfl) (by rfl) (by simp []) (Nat.zero_le _) (by rfl) ?_
    simp only [setAt, AVal.cells, List.set_cons_zero, List.set_cons_succ, Nat.reduceAdd]
    rw [bufSet hok1 hkx1, AHeap.set_set]
    simp (decide := true) only [aOps_nil, putD, Slots.keep, if_true, if_false]
    obtain ⟨H2, hH2⟩ : ∃ H2, H2 = H.set kx ⟨[.slice (.own kc) 0 (m + 1) (.grow 3), .int .i64 line, .int .i64 col, .bool (oddQ (c.text ++ t))], 0⟩ := ⟨_, rfl⟩
    have hok2 : bufOk H2 3 mb := by rw [hH2]; exact bufOkSet hok hkx _
    have hkx2 : H2 kx = some ⟨[.slice (.own kc) 0 (m + 1) (.grow 3), .int .i64 line, .int .i64 col, .bool (oddQ (c.text ++ t))], 0⟩ := by rw [hH2]; exact AHeap.set_same _ _ _
    have hkc2 : H2 kc = some ⟨D ++ [.bool c.left, .str c.text, bufV 3 mb], 0⟩ := by rw [hH2]; exact (AHeap.set_ne _ _ hne.symm).trans hkc
    rw [← hH2]
    have rx2 := rdBuf w₀ hok2 hkx2
    have rc2 := rdBuf w₀ hok2 hkc2
    apply hK; clear hK K
    refine awp_seq ?_
    -- region 5  columns.go:95
    refine awp_rseq [0, 3, 8, 44] (by rfl) fun K hK => ?_
    simp (decide := true) only [aOps_nil, ev, absV, absS, putD, Slots.put, Slots.get, Slots.keep, if_true, if_false, true_and, ↓ap_move, pop_move, ↓ap_binOp, pop_binOp, isNilC_str, cond_false, pBinX_str, pS_neq]
    repeat (with_reducible refine And.intro ?_ ?_; · first | trivial | omega | (intro hg; simp only [Bool.and_eq_true, Bool.or_eq_true, Bool.not_eq_true', Bool.and_eq_false_iff, Bool.or_eq_false_iff, Bool.not_eq_false', decide_eq_true_eq, decide_eq_false_iff_not, eqNil] at hg; omega) )
    apply hK; clear hK K
    refine awp_cond (b := _) rfl (fun hb2 => ?_) (fun hb2 => ?_)
    · try simp only [decide_eq_false_iff_not, Bool.not_eq_true'] at hb2
      -- region 6  columns.go:96
      refine awp_draw_F 16 [0] mixed (by kernel_rfl) (by rfl) ?_
      simp only [List.take_succ_cons, List.take_zero, List.drop_succ_cons, List.drop_zero]
      simp (decide := true) only [ev, absV, absS, putD, Slots.put, Slots.get, if_true, if_false, true_and, ↓fp_move, pop_move, ↓fp_nilCheck, pop_nilCheck, pNil_ptr, ↓fp_fieldAddr, pop_fieldAddr, fa39_2, ↓fp_load, pop_load, pLoad_one ag37, fa39_1, pLoad_one ag9, ↓fp_len, pop_len, pLen_str Tryd.underlying9, fa71_1, pLoad_agg ag32 sz32, ↓fp_build, ↓pop_buildL, bld57_0_1, evP, List.map_cons, List.map_nil, cellsAt, List.getD_cons_zero, List.getD_cons_succ, Nat.zero_add, Nat.reduceAdd, lv_int, lv_str, allLive, Bool.and_true, rx2, rc2, hlv, getD_app hD]
      repeat (with_reducible refine And.intro ?_ ?_; · first | trivial | omega | (intro hg; simp only [Bool.and_eq_true, Bool.or_eq_true, Bool.not_eq_true', Bool.and_eq_false_iff, Bool.or_eq_false_iff, Bool.not_eq_false', decide_eq_true_eq, decide_eq_false_iff_not, eqNil] at hg; omega) )
      refine fOps_lay (by rfl) ?_
      refine aOps_buildSlice (cs := [.int .i64 c.text.length, .int .i64 line, .int .i64 col]) (by kernel_rfl) fun k6q15 hk6q15 => ?_
      try have hf_6q15 : ((bufH H mb)) k6q15 = none := by first | assumption | (simp only [AHeap.set_none] at hk6q15; simp only [hk6q15])
      rw [aOps_nil]
      repeat (with_reducible refine And.intro ?_ ?_; · first | trivial | omega | (intro hg; simp only [Bool.and_eq_true, Bool.or_eq_true, Bool.not_eq_true', Bool.and_eq_false_iff, Bool.or_eq_false_iff, Bool.not_eq_false', decide_eq_true_eq, decide_eq_false_iff_not, eqNil] at hg; omega) )
      try simp only [fOps_nil]
      refine aOps_appendL (es := 3) (zs := c.marks.map markC) (xs := [[.int .i64 c.text.length, .int .i64 line, .int .i64 col]]) (h₀ := H2) (b := mb) (by rfl) (by rfl) Tryd.underlying37 Tryd.underlying37 (fun k e => by cases e) sz57 by57 ze57 (by rfl) (by decide) (by rfl) hok2 hmb (by simp [markC]) (Sub.set hk6q15) (by rfl) (IsL.own (AHeap.set_same _ _ _) (by simp) (by rfl) (by rfl) (.exact 1) (Nat.le_refl _)) (by rfl) (by simp; omega) (by simp; omega) fun mb' h6 o1 o2 o3 => ?_
      have hlv' := bufV_live 3 mb'
      simp (decide := true) only [ev, putD, Slots.put, Slots.get, if_true, if_false, true_and, ↓ap_nilCheck, pop_nilCheck, pNil_ptr, ↓ap_fieldAddr, pop_fieldAddr, fa39_2]
      repeat (with_reducible refine And.intro ?_ ?_; · first | trivial | omega | (intro hg; simp only [Bool.and_eq_true, Bool.or_eq_true, Bool.not_eq_true', Bool.and_eq_false_iff, Bool.or_eq_false_iff, Bool.not_eq_false', decide_eq_true_eq, decide_eq_false_iff_not, eqNil] at hg; omega) )
      refine aOps_store (v := bufV 3 mb') (by rfl) (by rfl) (o3 _ _ (bufAt o1 hkc2)) sz37 hlv' (by cases mb' <;> rfl) (by cases mb' <;> simp [hD, bufV]) (Nat.zero_le _) (by cases mb' <;> rfl) ?_
      simp only []
      rw [show (bufV 3 mb').cells = [bufV 3 mb'] by cases mb' <;> rfl, setAt_app hD]
      simp only [setAt, List.set_cons_zero, List.set_cons_succ]
      simp (decide := true) only [aOps_nil, putD]
      repeat (with_reducible refine And.intro ?_ ?_; · first | trivial | omega | (intro hg; simp only [Bool.and_eq_true, Bool.or_eq_true, Bool.not_eq_true', Bool.and_eq_false_iff, Bool.or_eq_false_iff, Bool.not_eq_false', decide_eq_true_eq, decide_eq_false_iff_not, eqNil] at hg; omega) )
      change Awp _ _ _ _ _ _ _
      -- region 7  columns.go:98
      refine awp_r [] (by rfl) ?_
      simp (decide := true) only [ev, putD, Slots.put, Slots.get, if_true, if_false, true_and, ↓ap_move, pop_move, ↓ap_nilCheck, pop_nilCheck, pNil_ptr, ↓ap_fieldAddr, pop_fieldAddr, fa39_1, ↓ap_loadL, apL_mk, pLoad_one ag9, ↓ap_binOp, pop_binOp, isNilC_tmp, cond_false, pBinX_str, pS_add, rd_any, List.getD_cons_zero, List.getD_cons_succ, lv_str, getD_app hD]
      repeat (with_reducible refine And.intro ?_ ?_; · first | trivial | omega | (intro hg; simp only [Bool.and_eq_true, Bool.or_eq_true, Bool.not_eq_true', Bool.and_eq_false_iff, Bool.or_eq_false_iff, Bool.not_eq_false', decide_eq_true_eq, decide_eq_false_iff_not, eqNil] at hg; omega) )
      skip
      first
      | refine aOps_store (v := .str (c.text ++ t')) (by rfl) (by rfl) (AHeap.set_same _ _ _) sz9 (by rfl) (by rfl) (by simp [hD]) (Nat.zero_le _) (by rfl) ?_
      | refine aOps_store (v := .str (c.text ++ t')) (by rfl) (by rfl) (bufAt hok2 hkc2) sz9 (by rfl) (by rfl) (by simp [AVal.cells, hD]) (Nat.zero_le _) (by rfl) ?_
      simp only [AVal.cells]
      rw [setAt_app hD]
      simp only [setAt, List.set_cons_zero, List.set_cons_succ]
      simp (decide := true) only [aOps_nil, putD, Slots.keep, if_false]
      repeat (with_reducible refine And.intro ?_ ?_; · first | trivial | omega | (intro hg; simp only [Bool.and_eq_true, Bool.or_eq_true, Bool.not_eq_true', Bool.and_eq_false_iff, Bool.or_eq_false_iff, Bool.not_eq_false', decide_eq_true_eq, decide_eq_false_iff_not, eqNil] at hg; omega) )
      try simp only [thenA_ret, inBlockA_ret]
      refine retA_endE (resPre_nil) ?_
      simp (decide := true) only [true_and, resOf_nil]
      refine ⟨bufH (H2.set kc ⟨D ++ [.bool c.left, .str (c.text ++ t'), bufV 3 mb'], 0⟩) mb', ?_, mb', ?_, ?_, ?_⟩
      · rw [AHeap.set_set, ← bufSet o1 hkc2]
        exact Sub.set_both o3 _ _
      · rw [hH2, ha]
      · rw [ha, ← hH2]
        exact bufOkSet o1 hkc2 _
      · rw [ha, o2, if_neg hb2, List.map_append]
        rfl
    · try simp only [decide_eq_true_eq, Bool.not_eq_false'] at hb2
      refine awp_skip ?_
      change Awp _ _ _ _ _ _ _
      -- region 7  columns.go:98
      refine awp_r [] (by rfl) ?_
      simp (decide := true) only [ev, putD, Slots.put, Slots.get, if_true, if_false, true_and, ↓ap_move, pop_move, ↓ap_nilCheck, pop_nilCheck, pNil_ptr, ↓ap_fieldAddr, pop_fieldAddr, fa39_1, ↓ap_loadL, apL_mk, pLoad_one ag9, ↓ap_binOp, pop_binOp, isNilC_tmp, cond_false, pBinX_str, pS_add, List.getD_cons_zero, List.getD_cons_succ, lv_str, rc2, getD_app hD]
      repeat (with_reducible refine And.intro ?_ ?_; · first | trivial | omega | (intro hg; simp only [Bool.and_eq_true, Bool.or_eq_true, Bool.not_eq_true', Bool.and_eq_false_iff, Bool.or_eq_false_iff, Bool.not_eq_false', decide_eq_true_eq, decide_eq_false_iff_not, eqNil] at hg; omega) )
      skip
      first
      | refine aOps_store (v := .str (c.text ++ t')) (by rfl) (by rfl) (AHeap.set_same _ _ _) sz9 (by rfl) (by rfl) (by simp [AVal.cells, hD]) (Nat.zero_le _) (by rfl) ?_
      | refine aOps_store (v := .str (c.text ++ t')) (by rfl) (by rfl) (bufAt hok2 hkc2) sz9 (by rfl) (by rfl) (by simp [hD]) (Nat.zero_le _) (by rfl) ?_
      simp only [AVal.cells]
      rw [setAt_app hD]
      simp only [setAt, List.set_cons_zero, List.set_cons_succ]
      simp (decide := true) only [aOps_nil, putD, Slots.keep, if_false]
      repeat (with_reducible refine And.intro ?_ ?_; · first | trivial | omega | (intro hg; simp only [Bool.and_eq_true, Bool.or_eq_true, Bool.not_eq_true', Bool.and_eq_false_iff, Bool.or_eq_false_iff, Bool.not_eq_false', decide_eq_true_eq, decide_eq_false_iff_not, eqNil] at hg; omega) )
      try simp only [thenA_ret, inBlockA_ret]
      refine retA_endE (resPre_nil) ?_
      simp (decide := true) only [true_and, resOf_nil]
      refine ⟨bufH (H2.set kc ⟨D ++ [.bool c.left, .str (c.text ++ t'), bufV 3 mb], 0⟩) mb, ?_, mb, ?_, ?_, ?_⟩
      · rw [← bufSet hok2 hkc2]
        exact Sub.refl _
      · rw [hH2, ha]
      · rw [ha, ← hH2]
        exact bufOkSet hok2 hkc2 _
      · rw [ha, hmb, if_pos hb2]

theorem u8_eq (b c : UInt8) : ((b.toNat : Int) = (c.toNat : Int)) = (b = c) := by
  apply propext
  constructor
  · intro h
    exact UInt8.toNat_inj.1 (by omega)
  · rintro rfl; rfl
theorem padE_len {s : Str} (h : s.length ≤ 80) : 72 ≤ (padE s).length ∧ (padE s).length ≤ 80 := by
  unfold padE sp
  rw [List.length_append, List.length_replicate]
  omega
theorem trimL_le (s : Str) : (trimL s).length ≤ s.length := dropWhile_le _ _
theorem badI_cases (s : Str) : (badAt s = none ∧ badI s = -1) ∨ ∃ i, badAt s = some i ∧ badI s = (i : Int) ∧ i < s.length := by
  unfold badI
  cases h : badAt s with
  | none => exact .inl ⟨rfl, rfl⟩
  | some i => exact .inr ⟨i, rfl, rfl, (List.findIdx?_eq_some_iff_findIdx_eq.1 h).1⟩
theorem lineE_none {s : Str} {line : Int} {dbg : Bool} (h80 : ¬ 80 < s.length) (hb : badAt s = none) : lineE s line dbg =
    if (padE s).getD 6 0 = 42 ∨ (padE s).getD 6 0 = 47 then (rowE s line, false, okF)
    else if (padE s).getD 6 0 = 68 ∨ (padE s).getD 6 0 = 100 then (rowE s line, dbg && !decide ((rowE s line).text = []), okF)
    else if (padE s).getD 6 0 = 32 ∨ (padE s).getD 6 0 = 45 then (rowE s line, !decide ((rowE s line).text = []), okF)
    else (rowE s line, false, ⟨4, line, 7⟩) := by
  unfold lineE
  rw [if_neg h80, hb]
theorem c_read (w₀ : World) (h : AHeap) (s : Str) (line : Int) (dbg : Bool) (hl : s.length ≤ 9223372036854775807) (l0 : 0 ≤ line) (l1 : line ≤ 1099511627776) : ACall Tryd.prog w₀ 31 [.str s, .int .i64 line, .bool dbg] h (fun v h' => v = .tuple [rowA (lineE s line dbg).1, .bool (lineE s line dbg).2.1, faultA (lineE s line dbg).2.2] ∧ h' = h) := by
  have w6 : (6 : Int).toNat = 6 := rfl
  have w7 : (7 : Int).toNat = 7 := rfl
  have w72 : (72 : Int).toNat = 72 := rfl
  have w8 : (8 : Int) + ((65 : Nat) : Int) = 73 := rfl
  refine acall_intro (n := 79) (rs := [.cell 6 73, .tmp 7, .cell 8 34]) Tryd.func31 rfl rfl rfl rfl (Nat.le_of_ble_eq_true rfl) ?_
  simp only [initSlots]
  -- region 0  columns.go:57
  refine awp_rseq [0, 1, 2, 6, 8] (by rfl) fun K hK => ?_
  refine aOps_alloc ze73 (cs := [.int .i64 0, .bool false, .str [], .int .i64 0]) (by rfl) fun k0q0 hk0q0 => ?_
  try have hf_0q0 : h k0q0 = none := by first | assumption | (simp only [AHeap.set_none] at hk0q0; simp only [hk0q0])
  simp (decide := true) only [ev, absV, absS, putD, Slots.put, if_false, true_and, ↓ap_assign, pop_assign, Nat.zero_add, Nat.reduceAdd]
  repeat (with_reducible refine And.intro ?_ ?_; · first | trivial | omega | (intro hg; simp only [Bool.and_eq_true, Bool.or_eq_true, Bool.not_eq_true', Bool.and_eq_false_iff, Bool.or_eq_false_iff, Bool.not_eq_false', decide_eq_true_eq, decide_eq_false_iff_not, eqNil] at hg; omega) )
  refine aOps_alloc ze34 (cs := [.int .i64 0, .int .i64 0, .int .i64 0]) (by rfl) fun k0q2 hk0q2 => ?_
  have ne_0q2_0q0 : k0q2 ≠ k0q0 := by simp only [AHeap.set_none] at hk0q2; simp only [hk0q2, ne_eq, not_false_eq_true]
  try have hf_0q2 : h k0q2 = none := by first | assumption | (simp only [AHeap.set_none] at hk0q2; simp only [hk0q2])
  simp (decide := true) only [aOps_nil, putD, Slots.put, Slots.keep, if_true, if_false]
  repeat (with_reducible refine And.intro ?_ ?_; · first | trivial | omega | (intro hg; simp only [Bool.and_eq_true, Bool.or_eq_true, Bool.not_eq_true', Bool.and_eq_false_iff, Bool.or_eq_false_iff, Bool.not_eq_false', decide_eq_true_eq, decide_eq_false_iff_not, eqNil] at hg; omega) )
  apply hK; clear hK K
  refine awp_seq ?_
  -- region 1  columns.go:58
  refine awp_rseq [0, 1, 2, 6, 8, 16] (by rfl) fun K hK => ?_
  simp (decide := true) only [aOps_nil, ev, absV, absS, putD, Slots.put, Slots.get, Slots.keep, if_true, if_false, true_and, ↓ap_move, pop_move, ↓ap_len, pop_len, pLen_str Tryd.underlying9, ↓ap_binOp, pop_binOp, isNilC_int, cond_false, pBinX_int, pI_gtr]
  repeat (with_reducible refine And.intro ?_ ?_; · first | trivial | omega | (intro hg; simp only [Bool.and_eq_true, Bool.or_eq_true, Bool.not_eq_true', Bool.and_eq_false_iff, Bool.or_eq_false_iff, Bool.not_eq_false', decide_eq_true_eq, decide_eq_false_iff_not, eqNil] at hg; omega) )
  apply hK; clear hK K
  refine awp_cond (b := _) rfl (fun hb1 => ?_) (fun hb1 => ?_)
  · try simp only [decide_eq_true_eq] at hb1
    -- region 2  columns.go:59
    refine awp_rseq [6, 7, 8] (by rfl) fun K hK => ?_
    simp (decide := true) only [ev, absV, absS, putD, Slots.put, Slots.get, if_true, if_false, true_and, ↓ap_build, ↓pop_buildL, bld73_, evP, List.map_nil, ↓ap_move, pop_move]
    repeat (with_reducible refine And.intro ?_ ?_; · first | trivial | omega | (intro hg; simp only [Bool.and_eq_true, Bool.or_eq_true, Bool.not_eq_true', Bool.and_eq_false_iff, Bool.or_eq_false_iff, Bool.not_eq_false', decide_eq_true_eq, decide_eq_false_iff_not, eqNil] at hg; omega) )
    refine aOps_callV (V := faultA ⟨5, line, 81⟩) (by rfl) (by rfl) (c_fault w₀ _ 5 line 81) ?_
    refine aOps_store (by rfl) (by rfl) (by repeat (first | exact AHeap.set_same _ _ _ | assumption | refine (AHeap.set_ne _ _ (by first | assumption | exact Ne.symm (by assumption))).trans ?_)) sz73 (by rfl) (by rfl) (by first | exact Nat.le_refl _ | decide | (simp; done) | (simp; omega)) (Nat.zero_le _) (by rfl) ?_
    simp only [AVal.cells]
    simp (decide := true) only [ev, absV, absS, putD, Slots.put, Slots.get, if_true, if_false, true_and, ↓ap_assign, pop_assign, setAt, List.set_cons_zero, List.set_cons_succ, Nat.zero_add, Nat.reduceAdd, faultA]
    repeat (with_reducible refine And.intro ?_ ?_; · first | trivial | omega | (intro hg; simp only [Bool.and_eq_true, Bool.or_eq_true, Bool.not_eq_true', Bool.and_eq_false_iff, Bool.or_eq_false_iff, Bool.not_eq_false', decide_eq_true_eq, decide_eq_false_iff_not, eqNil] at hg; omega) )
    refine aOps_store (by rfl) (by rfl) (by repeat (first | exact AHeap.set_same _ _ _ | assumption | refine (AHeap.set_ne _ _ (by first | assumption | exact Ne.symm (by assumption))).trans ?_)) sz34 (by rfl) (by rfl) (by first | exact Nat.le_refl _ | decide | (simp; done) | (simp; omega)) (Nat.zero_le _) (by rfl) ?_
    simp only [AVal.cells]
    simp (decide := true) only [aOps_nil, ev, putD, Slots.get, Slots.keep, if_true, if_false, setAt, List.set_cons_zero, List.set_cons_succ, Nat.zero_add, Nat.reduceAdd]
    repeat (with_reducible refine And.intro ?_ ?_; · first | trivial | omega | (intro hg; simp only [Bool.and_eq_true, Bool.or_eq_true, Bool.not_eq_true', Bool.and_eq_false_iff, Bool.or_eq_false_iff, Bool.not_eq_false', decide_eq_true_eq, decide_eq_false_iff_not, eqNil] at hg; omega) )
    apply hK; clear hK K
    refine awp_ret ?_
    try simp only [thenA_ret]
    refine retA_ret h (by repeat (first | exact Sub.refl _ | assumption | refine Sub.trans_set ?_ (by assumption))) (?_) ?_
    · simp (decide := true) only [resPre, resV_tmp, resV_cell, Slots.get, if_true, if_false, and_true, resV_tmp, resV_cell, pLoad_agg ag73 sz73, pLoad_agg ag34 sz34, rd_set, cellsAt, List.getD_cons_zero, List.getD_cons_succ, Nat.zero_add, Nat.reduceAdd, lv_bool, lv_int, lv_str, allLive, Bool.and_true, rd_ne', ne_eq, not_false_eq_true, ne_0q2_0q0.symm, cellsAt, List.getD_cons_zero, List.getD_cons_succ, Nat.zero_add, Nat.reduceAdd, lv_bool, lv_int, lv_str, allLive, Bool.and_true]
    
    simp (decide := true) only [Slots.get, if_true, if_false, and_true, resOfG_three, resV_tmp, resV_cell, pLoad_agg ag73 sz73, pLoad_agg ag34 sz34, rd_set, cellsAt, List.getD_cons_zero, List.getD_cons_succ, Nat.zero_add, Nat.reduceAdd, lv_bool, lv_int, lv_str, allLive, Bool.and_true, rd_ne', ne_eq, not_false_eq_true, ne_0q2_0q0.symm, cellsAt, List.getD_cons_zero, List.getD_cons_succ, Nat.zero_add, Nat.reduceAdd, lv_bool, lv_int, lv_str, allLive, Bool.and_true, faultA, rowA]
    unfold lineE
    rw [if_pos (by omega)]
    rfl
  · try simp only [decide_eq_false_iff_not] at hb1
    have h80 : ¬ 80 < s.length := by omega
    refine awp_skip ?_
    change Awp _ _ _ _ _ _ _
    refine awp_seq ?_
    -- region 3  columns.go:61
    refine awp_rseq [0, 1, 2, 6, 8, 9] (by rfl) fun K hK => ?_
    simp (decide := true) only [ev, putD, Slots.put, Slots.get, if_true, if_false, true_and, ↓ap_move, pop_move]
    repeat (with_reducible refine And.intro ?_ ?_; · first | trivial | omega | (intro hg; simp only [Bool.and_eq_true, Bool.or_eq_true, Bool.not_eq_true', Bool.and_eq_false_iff, Bool.or_eq_false_iff, Bool.not_eq_false', decide_eq_true_eq, decide_eq_false_iff_not, eqNil] at hg; omega) )
    refine aOps_callV (V := .int .i64 (badI s)) (by rfl) (by rfl) (c_bad w₀ _ s) ?_
    simp (decide := true) only [aOps_nil, ev, putD, Slots.put, Slots.get, Slots.keep, if_true, if_false, true_and, ↓ap_assign, pop_assign]
    repeat (with_reducible refine And.intro ?_ ?_; · first | trivial | omega | (intro hg; simp only [Bool.and_eq_true, Bool.or_eq_true, Bool.not_eq_true', Bool.and_eq_false_iff, Bool.or_eq_false_iff, Bool.not_eq_false', decide_eq_true_eq, decide_eq_false_iff_not, eqNil] at hg; omega) )
    apply hK; clear hK K
    -- region 4  columns.go:61
    refine awp_rseq [0, 1, 2, 6, 8, 9, 23] (by rfl) fun K hK => ?_
    simp (decide := true) only [aOps_nil, ev, absV, absS, putD, Slots.put, Slots.get, Slots.keep, if_true, if_false, true_and, ↓ap_move, pop_move, ↓ap_binOp, pop_binOp, isNilC_int, cond_false, pBinX_int, pI_geq]
    repeat (with_reducible refine And.intro ?_ ?_; · first | trivial | omega | (intro hg; simp only [Bool.and_eq_true, Bool.or_eq_true, Bool.not_eq_true', Bool.and_eq_false_iff, Bool.or_eq_false_iff, Bool.not_eq_false', decide_eq_true_eq, decide_eq_false_iff_not, eqNil] at hg; omega) )
    apply hK; clear hK K
    refine awp_cond (b := _) rfl (fun hb2 => ?_) (fun hb2 => ?_)
    · try simp only [decide_eq_true_eq] at hb2
      obtain ⟨i, hi1, hi2, hi3⟩ := (badI_cases s).resolve_left (fun e => by omega)
      rw [hi2]
      -- region 5  columns.go:62
      refine awp_rseq [6, 7, 8] (by rfl) fun K hK => ?_
      simp (decide := true) only [ev, absV, absS, putD, Slots.put, Slots.get, if_true, if_false, true_and, ↓ap_build, ↓pop_buildL, bld73_, evP, List.map_nil, ↓ap_move, pop_move, ↓ap_binOp, pop_binOp, isNilC_int, cond_false, pBinX_int, pI_add]
      try simp (disch := omega) only [wrap_i64]
      repeat (with_reducible refine And.intro ?_ ?_; · first | trivial | omega | (intro hg; simp only [Bool.and_eq_true, Bool.or_eq_true, Bool.not_eq_true', Bool.and_eq_false_iff, Bool.or_eq_false_iff, Bool.not_eq_false', decide_eq_true_eq, decide_eq_false_iff_not, eqNil] at hg; omega) )
      refine aOps_callV (V := faultA ⟨4, line, (i : Int) + 1⟩) (by rfl) (by rfl) (c_fault w₀ _ 4 line ((i : Int) + 1)) ?_
      refine aOps_store (by rfl) (by rfl) (by repeat (first | exact AHeap.set_same _ _ _ | assumption | refine (AHeap.set_ne _ _ (by first | assumption | exact Ne.symm (by assumption))).trans ?_)) sz73 (by rfl) (by rfl) (by first | exact Nat.le_refl _ | decide | (simp; done) | (simp; omega)) (Nat.zero_le _) (by rfl) ?_
      simp only [AVal.cells]
      simp (decide := true) only [ev, absV, absS, putD, Slots.put, Slots.get, if_true, if_false, true_and, ↓ap_assign, pop_assign, setAt, List.set_cons_zero, List.set_cons_succ, Nat.zero_add, Nat.reduceAdd, faultA]
      repeat (with_reducible refine And.intro ?_ ?_; · first | trivial | omega | (intro hg; simp only [Bool.and_eq_true, Bool.or_eq_true, Bool.not_eq_true', Bool.and_eq_false_iff, Bool.or_eq_false_iff, Bool.not_eq_false', decide_eq_true_eq, decide_eq_false_iff_not, eqNil] at hg; omega) )
      refine aOps_store (by rfl) (by rfl) (by repeat (first | exact AHeap.set_same _ _ _ | assumption | refine (AHeap.set_ne _ _ (by first | assumption | exact Ne.symm (by assumption))).trans ?_)) sz34 (by rfl) (by rfl) (by first | exact Nat.le_refl _ | decide | (simp; done) | (simp; omega)) (Nat.zero_le _) (by rfl) ?_
      simp only [AVal.cells]
      simp (decide := true) only [aOps_nil, ev, putD, Slots.get, Slots.keep, if_true, if_false, setAt, List.set_cons_zero, List.set_cons_succ, Nat.zero_add, Nat.reduceAdd]
      repeat (with_reducible refine And.intro ?_ ?_; · first | trivial | omega | (intro hg; simp only [Bool.and_eq_true, Bool.or_eq_true, Bool.not_eq_true', Bool.and_eq_false_iff, Bool.or_eq_false_iff, Bool.not_eq_false', decide_eq_true_eq, decide_eq_false_iff_not, eqNil] at hg; omega) )
      apply hK; clear hK K
      refine awp_ret ?_
      try simp only [thenA_ret]
      refine retA_ret h (by repeat (first | exact Sub.refl _ | assumption | refine Sub.trans_set ?_ (by assumption))) (?_) ?_
      · simp (decide := true) only [resPre, resV_tmp, resV_cell, Slots.get, if_true, if_false, and_true, resV_tmp, resV_cell, pLoad_agg ag73 sz73, pLoad_agg ag34 sz34, rd_set, cellsAt, List.getD_cons_zero, List.getD_cons_succ, Nat.zero_add, Nat.reduceAdd, lv_bool, lv_int, lv_str, allLive, Bool.and_true, rd_ne', ne_eq, not_false_eq_true, ne_0q2_0q0.symm, cellsAt, List.getD_cons_zero, List.getD_cons_succ, Nat.zero_add, Nat.reduceAdd, lv_bool, lv_int, lv_str, allLive, Bool.and_true]
      
      simp (decide := true) only [Slots.get, if_true, if_false, and_true, resOfG_three, resV_tmp, resV_cell, pLoad_agg ag73 sz73, pLoad_agg ag34 sz34, rd_set, cellsAt, List.getD_cons_zero, List.getD_cons_succ, Nat.zero_add, Nat.reduceAdd, lv_bool, lv_int, lv_str, allLive, Bool.and_true, rd_ne', ne_eq, not_false_eq_true, ne_0q2_0q0.symm, cellsAt, List.getD_cons_zero, List.getD_cons_succ, Nat.zero_add, Nat.reduceAdd, lv_bool, lv_int, lv_str, allLive, Bool.and_true, faultA, rowA]
      unfold lineE
      rw [if_neg h80, hi1]
      rfl
    · try simp only [decide_eq_false_iff_not] at hb2
      have hbn : badAt s = none := by
        rcases badI_cases s with e | ⟨i, e1, e2, e3⟩
        · exact e.1
        · omega
      obtain ⟨p1, p2⟩ := padE_len (s := s) (by omega)
      have hspl : (sp (72 - s.length)).length = 72 - s.length := by simp [sp]
      have hpe : s ++ sp (72 - s.length) = padE s := rfl
      have h65 : (((padE s).drop 7).take 65).length = 65 := by simp; omega
      have htl := trimL_le (((padE s).drop 7).take 65)
      have hmr : decide ((((padE s).getD 6 0).toNat : Int) = 45) = ((padE s).getD 6 0 == 45) := by
        rw [Bool.eq_iff_iff, decide_eq_true_eq, beq_iff_eq]
        exact iff_of_eq (u8_eq _ 45)
      have hln := lineE_none (line := line) (dbg := dbg) h80 hbn
      refine awp_skip ?_
      change Awp _ _ _ _ _ _ _
      -- region 6  columns.go:64
      refine awp_rseq [0, 1, 2, 6, 8] (by rfl) fun K hK => ?_
      simp (decide := true) only [ev, absV, absS, putD, Slots.put, Slots.get, if_true, if_false, true_and, ↓ap_move, pop_move, ↓ap_len, pop_len, pLen_str Tryd.underlying9, ↓ap_binOp, pop_binOp, isNilC_tmp, cond_false, pBinX_int, pI_sub, ↓ap_max, pop_max, pMax_int, evs, List.map_cons, List.map_nil]
      try simp (disch := omega) only [wrap_i64]
      repeat (with_reducible refine And.intro ?_ ?_; · first | trivial | omega | (intro hg; simp only [Bool.and_eq_true, Bool.or_eq_true, Bool.not_eq_true', Bool.and_eq_false_iff, Bool.or_eq_false_iff, Bool.not_eq_false', decide_eq_true_eq, decide_eq_false_iff_not, eqNil] at hg; omega) )
      rw [show max (0 : Int) (72 - (s.length : Int)) = ((72 - s.length : Nat) : Int) by omega]
      refine aOps_callV (V := .str (sp (72 - s.length))) (by rfl) (by rfl) (c_repeat w₀ _ 32 _ (by omega)) ?_
      simp (decide := true) only [aOps_nil, ev, putD, Slots.put, Slots.get, Slots.keep, if_true, if_false, true_and, ↓ap_binOp, pop_binOp, isNilC_tmp, cond_false, pBinX_str, pS_add, ↓ap_assign, pop_assign, hpe]
      repeat (with_reducible refine And.intro ?_ ?_; · first | trivial | omega | (intro hg; simp only [Bool.and_eq_true, Bool.or_eq_true, Bool.not_eq_true', Bool.and_eq_false_iff, Bool.or_eq_false_iff, Bool.not_eq_false', decide_eq_true_eq, decide_eq_false_iff_not, eqNil] at hg; omega) )
      apply hK; clear hK K
      -- region 7  columns.go:65
      refine awp_rseq [0, 1, 2, 6, 8, 10] (by rfl) fun K hK => ?_
      simp (decide := true) only [aOps_nil, ev, absV, absS, putD, Slots.put, Slots.get, Slots.keep, if_true, if_false, true_and, ↓ap_move, pop_move, ↓ap_index, pop_index, pIndex_str Tryd.underlying9, ↓ap_assign, pop_assign, w6]
      repeat (with_reducible refine And.intro ?_ ?_; · first | trivial | omega | (intro hg; simp only [Bool.and_eq_true, Bool.or_eq_true, Bool.not_eq_true', Bool.and_eq_false_iff, Bool.or_eq_false_iff, Bool.not_eq_false', decide_eq_true_eq, decide_eq_false_iff_not, eqNil] at hg; omega) )
      apply hK; clear hK K
      -- region 8  columns.go:66
      refine awp_rseq [1, 2, 6, 8, 10, 11] (by rfl) fun K hK => ?_
      simp (decide := true) only [aOps_nil, ev, absV, absS, putD, Slots.put, Slots.get, Slots.keep, if_true, if_false, true_and, ↓ap_move, pop_move, ↓ap_slice, pop_slice, evO, pSliceS_ii Tryd.underlying9, pSliceS, bndA_int, ↓ap_assign, pop_assign, w7, w72, Nat.reduceSub]
      repeat (with_reducible refine And.intro ?_ ?_; · first | trivial | omega | (intro hg; simp only [Bool.and_eq_true, Bool.or_eq_true, Bool.not_eq_true', Bool.and_eq_false_iff, Bool.or_eq_false_iff, Bool.not_eq_false', decide_eq_true_eq, decide_eq_false_iff_not, eqNil] at hg; omega) )
      apply hK; clear hK K
      -- region 9  columns.go:67
      refine awp_rseq [1, 2, 6, 8, 10, 11, 12] (by rfl) fun K hK => ?_
      simp (decide := true) only [ev, putD, Slots.put, Slots.get, if_true, if_false, true_and, ↓ap_move, pop_move]
      repeat (with_reducible refine And.intro ?_ ?_; · first | trivial | omega | (intro hg; simp only [Bool.and_eq_true, Bool.or_eq_true, Bool.not_eq_true', Bool.and_eq_false_iff, Bool.or_eq_false_iff, Bool.not_eq_false', decide_eq_true_eq, decide_eq_false_iff_not, eqNil] at hg; omega) )
      refine aOps_callV (V := .str (trimL (((padE s).drop 7).take 65))) (by rfl) (by rfl) (c_trimL w₀ _ _) ?_
      simp (decide := true) only [aOps_nil, ev, putD, Slots.put, Slots.get, Slots.keep, if_true, if_false, true_and, ↓ap_assign, pop_assign]
      repeat (with_reducible refine And.intro ?_ ?_; · first | trivial | omega | (intro hg; simp only [Bool.and_eq_true, Bool.or_eq_true, Bool.not_eq_true', Bool.and_eq_false_iff, Bool.or_eq_false_iff, Bool.not_eq_false', decide_eq_true_eq, decide_eq_false_iff_not, eqNil] at hg; omega) )
      apply hK; clear hK K
      -- region 10  columns.go:68
      refine awp_rseq [1, 2, 6, 8, 10, 12, 13] (by rfl) fun K hK => ?_
      simp (decide := true) only [ev, absV, absS, putD, Slots.put, Slots.get, if_true, if_false, true_and, ↓ap_move, pop_move, ↓ap_binOp, pop_binOp, isNilC_int, cond_false, pBinX_int, pI_eql, ↓ap_len, pop_len, pLen_str Tryd.underlying9, isNilC_tmp, pI_add, pI_sub, ↓ap_build, ↓pop_buildL, bld73_0_1_2_3, evP, List.map_cons, List.map_nil, h65, w8, hmr]
      try simp (disch := omega) only [wrap_i64]
      repeat (with_reducible refine And.intro ?_ ?_; · first | trivial | omega | (intro hg; simp only [Bool.and_eq_true, Bool.or_eq_true, Bool.not_eq_true', Bool.and_eq_false_iff, Bool.or_eq_false_iff, Bool.not_eq_false', decide_eq_true_eq, decide_eq_false_iff_not, eqNil] at hg; omega) )
      refine aOps_alloc ze73 (cs := [.int .i64 0, .bool false, .str [], .int .i64 0]) (by rfl) fun k10q11 hk10q11 => ?_
      have ne_10q11_0q0 : k10q11 ≠ k0q0 := by simp only [AHeap.set_none] at hk10q11; simp only [hk10q11, ne_eq, not_false_eq_true]
      have ne_10q11_0q2 : k10q11 ≠ k0q2 := by simp only [AHeap.set_none] at hk10q11; simp only [hk10q11, ne_eq, not_false_eq_true]
      try have hf_10q11 : h k10q11 = none := by first | assumption | (simp only [AHeap.set_none] at hk10q11; simp only [hk10q11])
      refine aOps_store (by rfl) (by rfl) (by repeat (first | exact AHeap.set_same _ _ _ | assumption | refine (AHeap.set_ne _ _ (by first | assumption | exact Ne.symm (by assumption))).trans ?_)) sz73 (by rfl) (by rfl) (by first | exact Nat.le_refl _ | decide | (simp; done) | (simp; omega)) (Nat.zero_le _) (by rfl) ?_
      simp only [AHeap.set_set, AVal.cells]
      simp (decide := true) only [aOps_nil, ev, putD, Slots.put, Slots.get, Slots.keep, if_true, if_false, setAt, List.set_cons_zero, List.set_cons_succ, Nat.zero_add, Nat.reduceAdd]
      repeat (with_reducible refine And.intro ?_ ?_; · first | trivial | omega | (intro hg; simp only [Bool.and_eq_true, Bool.or_eq_true, Bool.not_eq_true', Bool.and_eq_false_iff, Bool.or_eq_false_iff, Bool.not_eq_false', decide_eq_true_eq, decide_eq_false_iff_not, eqNil] at hg; omega) )
      apply hK; clear hK K
      refine awp_seq ?_
      -- region 11  columns.go:69
      refine awp_rseq [1, 2, 6, 8, 12, 13, 53] (by rfl) fun K hK => ?_
      simp (decide := true) only [aOps_nil, ev, putD, Slots.put, Slots.get, Slots.keep, if_true, if_false, true_and, ↓ap_move, pop_move]
      repeat (with_reducible refine And.intro ?_ ?_; · first | trivial | omega | (intro hg; simp only [Bool.and_eq_true, Bool.or_eq_true, Bool.not_eq_true', Bool.and_eq_false_iff, Bool.or_eq_false_iff, Bool.not_eq_false', decide_eq_true_eq, decide_eq_false_iff_not, eqNil] at hg; omega) )
      apply hK; clear hK K
      refine awp_block ?_
      refine awp_seq ?_
      -- region 12  columns.go:70
      refine awp_rseq [1, 2, 6, 8, 12, 13, 53, 54] (by rfl) fun K hK => ?_
      simp (decide := true) only [aOps_nil, ev, absV, absS, putD, Slots.put, Slots.get, Slots.keep, if_true, if_false, true_and, ↓ap_binOp, pop_binOp, isNilC_int, cond_false, pBinX_int, pI_eql, ↓ap_assign, pop_assign]
      repeat (with_reducible refine And.intro ?_ ?_; · first | trivial | omega | (intro hg; simp only [Bool.and_eq_true, Bool.or_eq_true, Bool.not_eq_true', Bool.and_eq_false_iff, Bool.or_eq_false_iff, Bool.not_eq_false', decide_eq_true_eq, decide_eq_false_iff_not, eqNil] at hg; omega) )
      apply hK; clear hK K
      refine awp_cond (b := _) rfl (fun hb3 => ?_) (fun hb3 => ?_)
      · try simp only [decide_eq_true_eq] at hb3
        refine awp_skip ?_
        change Awp _ _ _ _ _ _ _
        refine awp_cond (b := _) rfl (fun hb4 => ?_) (fun hb4 => ?_)
        · try simp only [decide_eq_true_eq] at hb4
          -- region 14  columns.go:71
          refine awp_rseq [6, 7, 8] (by rfl) fun K hK => ?_
          simp (decide := true) only [ev, absV, absS, putD, Slots.put, Slots.get, if_true, if_false, true_and, ↓ap_loadL, apL_mk, pLoad_agg ag73 sz73, ↓ap_build, ↓pop_buildL, bld34_, evP, List.map_nil, rd_any, cellsAt, List.getD_cons_zero, List.getD_cons_succ, Nat.zero_add, Nat.reduceAdd, lv_bool, lv_int, lv_str, allLive, Bool.and_true]
          repeat (with_reducible refine And.intro ?_ ?_; · first | trivial | omega | (intro hg; simp only [Bool.and_eq_true, Bool.or_eq_true, Bool.not_eq_true', Bool.and_eq_false_iff, Bool.or_eq_false_iff, Bool.not_eq_false', decide_eq_true_eq, decide_eq_false_iff_not, eqNil] at hg; omega) )
          refine aOps_store (by rfl) (by rfl) (by repeat (first | exact AHeap.set_same _ _ _ | assumption | refine (AHeap.set_ne _ _ (by first | assumption | exact Ne.symm (by assumption))).trans ?_)) sz73 (by rfl) (by rfl) (by first | exact Nat.le_refl _ | decide | (simp; done) | (simp; omega)) (Nat.zero_le _) (by rfl) ?_
          simp only [AVal.cells]
          simp (decide := true) only [ev, absV, absS, putD, Slots.put, Slots.get, if_true, if_false, true_and, ↓ap_assign, pop_assign, setAt, List.set_cons_zero, List.set_cons_succ, Nat.zero_add, Nat.reduceAdd]
          repeat (with_reducible refine And.intro ?_ ?_; · first | trivial | omega | (intro hg; simp only [Bool.and_eq_true, Bool.or_eq_true, Bool.not_eq_true', Bool.and_eq_false_iff, Bool.or_eq_false_iff, Bool.not_eq_false', decide_eq_true_eq, decide_eq_false_iff_not, eqNil] at hg; omega) )
          refine aOps_store (by rfl) (by rfl) (by repeat (first | exact AHeap.set_same _ _ _ | assumption | refine (AHeap.set_ne _ _ (by first | assumption | exact Ne.symm (by assumption))).trans ?_)) sz34 (by rfl) (by rfl) (by first | exact Nat.le_refl _ | decide | (simp; done) | (simp; omega)) (Nat.zero_le _) (by rfl) ?_
          simp only [AVal.cells]
          simp (decide := true) only [aOps_nil, ev, putD, Slots.get, Slots.keep, if_true, if_false, setAt, List.set_cons_zero, List.set_cons_succ, Nat.zero_add, Nat.reduceAdd]
          repeat (with_reducible refine And.intro ?_ ?_; · first | trivial | omega | (intro hg; simp only [Bool.and_eq_true, Bool.or_eq_true, Bool.not_eq_true', Bool.and_eq_false_iff, Bool.or_eq_false_iff, Bool.not_eq_false', decide_eq_true_eq, decide_eq_false_iff_not, eqNil] at hg; omega) )
          apply hK; clear hK K
          refine awp_ret ?_
          try simp only [thenA_ret, inBlockA_ret]
          refine retA_ret h (by repeat (first | exact Sub.refl _ | assumption | refine Sub.trans_set ?_ (by assumption))) (?_) ?_
          · simp (decide := true) only [resPre, resV_tmp, resV_cell, Slots.get, if_true, if_false, and_true, resV_tmp, resV_cell, pLoad_agg ag73 sz73, pLoad_agg ag34 sz34, rd_set, cellsAt, List.getD_cons_zero, List.getD_cons_succ, Nat.zero_add, Nat.reduceAdd, lv_bool, lv_int, lv_str, allLive, Bool.and_true, rd_ne', ne_eq, not_false_eq_true, ne_0q2_0q0.symm, cellsAt, List.getD_cons_zero, List.getD_cons_succ, Nat.zero_add, Nat.reduceAdd, lv_bool, lv_int, lv_str, allLive, Bool.and_true]
          
          simp (decide := true) only [Slots.get, if_true, if_false, and_true, resOfG_three, resV_tmp, resV_cell, pLoad_agg ag73 sz73, pLoad_agg ag34 sz34, rd_set, cellsAt, List.getD_cons_zero, List.getD_cons_succ, Nat.zero_add, Nat.reduceAdd, lv_bool, lv_int, lv_str, allLive, Bool.and_true, rd_ne', ne_eq, not_false_eq_true, ne_0q2_0q0.symm, cellsAt, List.getD_cons_zero, List.getD_cons_succ, Nat.zero_add, Nat.reduceAdd, lv_bool, lv_int, lv_str, allLive, Bool.and_true, faultA, rowA]
          rw [hln, if_pos (.inl ((u8_eq _ 42).mp hb3))]
          rfl
        · try simp only [decide_eq_false_iff_not] at hb4
          exact absurd hb3 hb4
      · try simp only [decide_eq_false_iff_not] at hb3
        -- region 13  columns.go:70
        refine awp_r [1, 2, 6, 8, 12, 13, 53, 54] (by rfl) ?_
        simp (decide := true) only [aOps_nil, ev, absV, absS, putD, Slots.put, Slots.get, Slots.keep, if_true, if_false, true_and, ↓ap_binOp, pop_binOp, isNilC_int, cond_false, pBinX_int, pI_eql, ↓ap_assign, pop_assign, faultA, rowA]
        repeat (with_reducible refine And.intro ?_ ?_; · first | trivial | omega | (intro hg; simp only [Bool.and_eq_true, Bool.or_eq_true, Bool.not_eq_true', Bool.and_eq_false_iff, Bool.or_eq_false_iff, Bool.not_eq_false', decide_eq_true_eq, decide_eq_false_iff_not, eqNil] at hg; omega) )
        change Awp _ _ _ _ _ _ _
        refine awp_cond (b := _) rfl (fun hb9 => ?_) (fun hb9 => ?_)
        · try simp only [decide_eq_true_eq] at hb9
          -- region 14  columns.go:71
          refine awp_rseq [6, 7, 8] (by rfl) fun K hK => ?_
          simp (decide := true) only [ev, absV, absS, putD, Slots.put, Slots.get, if_true, if_false, true_and, ↓ap_loadL, apL_mk, pLoad_agg ag73 sz73, ↓ap_build, ↓pop_buildL, bld34_, evP, List.map_nil, rd_any, cellsAt, List.getD_cons_zero, List.getD_cons_succ, Nat.zero_add, Nat.reduceAdd, lv_bool, lv_int, lv_str, allLive, Bool.and_true]
          repeat (with_reducible refine And.intro ?_ ?_; · first | trivial | omega | (intro hg; simp only [Bool.and_eq_true, Bool.or_eq_true, Bool.not_eq_true', Bool.and_eq_false_iff, Bool.or_eq_false_iff, Bool.not_eq_false', decide_eq_true_eq, decide_eq_false_iff_not, eqNil] at hg; omega) )
          refine aOps_store (by rfl) (by rfl) (by repeat (first | exact AHeap.set_same _ _ _ | assumption | refine (AHeap.set_ne _ _ (by first | assumption | exact Ne.symm (by assumption))).trans ?_)) sz73 (by rfl) (by rfl) (by first | exact Nat.le_refl _ | decide | (simp; done) | (simp; omega)) (Nat.zero_le _) (by rfl) ?_
          simp only [AVal.cells]
          simp (decide := true) only [ev, absV, absS, putD, Slots.put, Slots.get, if_true, if_false, true_and, ↓ap_assign, pop_assign, setAt, List.set_cons_zero, List.set_cons_succ, Nat.zero_add, Nat.reduceAdd]
          repeat (with_reducible refine And.intro ?_ ?_; · first | trivial | omega | (intro hg; simp only [Bool.and_eq_true, Bool.or_eq_true, Bool.not_eq_true', Bool.and_eq_false_iff, Bool.or_eq_false_iff, Bool.not_eq_false', decide_eq_true_eq, decide_eq_false_iff_not, eqNil] at hg; omega) )
          refine aOps_store (by rfl) (by rfl) (by repeat (first | exact AHeap.set_same _ _ _ | assumption | refine (AHeap.set_ne _ _ (by first | assumption | exact Ne.symm (by assumption))).trans ?_)) sz34 (by rfl) (by rfl) (by first | exact Nat.le_refl _ | decide | (simp; done) | (simp; omega)) (Nat.zero_le _) (by rfl) ?_
          simp only [AVal.cells]
          simp (decide := true) only [aOps_nil, ev, putD, Slots.get, Slots.keep, if_true, if_false, setAt, List.set_cons_zero, List.set_cons_succ, Nat.zero_add, Nat.reduceAdd]
          repeat (with_reducible refine And.intro ?_ ?_; · first | trivial | omega | (intro hg; simp only [Bool.and_eq_true, Bool.or_eq_true, Bool.not_eq_true', Bool.and_eq_false_iff, Bool.or_eq_false_iff, Bool.not_eq_false', decide_eq_true_eq, decide_eq_false_iff_not, eqNil] at hg; omega) )
          apply hK; clear hK K
          refine awp_ret ?_
          try simp only [thenA_ret, inBlockA_ret]
          refine retA_ret h (by repeat (first | exact Sub.refl _ | assumption | refine Sub.trans_set ?_ (by assumption))) (?_) ?_
          · simp (decide := true) only [resPre, resV_tmp, resV_cell, Slots.get, if_true, if_false, and_true, resV_tmp, resV_cell, pLoad_agg ag73 sz73, pLoad_agg ag34 sz34, rd_set, cellsAt, List.getD_cons_zero, List.getD_cons_succ, Nat.zero_add, Nat.reduceAdd, lv_bool, lv_int, lv_str, allLive, Bool.and_true, rd_ne', ne_eq, not_false_eq_true, ne_0q2_0q0.symm, cellsAt, List.getD_cons_zero, List.getD_cons_succ, Nat.zero_add, Nat.reduceAdd, lv_bool, lv_int, lv_str, allLive, Bool.and_true]
          
          simp (decide := true) only [Slots.get, if_true, if_false, and_true, resOfG_three, resV_tmp, resV_cell, pLoad_agg ag73 sz73, pLoad_agg ag34 sz34, rd_set, cellsAt, List.getD_cons_zero, List.getD_cons_succ, Nat.zero_add, Nat.reduceAdd, lv_bool, lv_int, lv_str, allLive, Bool.and_true, rd_ne', ne_eq, not_false_eq_true, ne_0q2_0q0.symm, cellsAt, List.getD_cons_zero, List.getD_cons_succ, Nat.zero_add, Nat.reduceAdd, lv_bool, lv_int, lv_str, allLive, Bool.and_true]
          rw [hln, if_pos (.inr ((u8_eq _ 47).mp hb9))]
          rfl
        · try simp only [decide_eq_false_iff_not] at hb9
          have n1 : ¬ ((padE s).getD 6 0 = 42 ∨ (padE s).getD 6 0 = 47) := by
            rintro (e | e)
            · exact hb3 ((u8_eq _ 42).mpr e)
            · exact hb9 ((u8_eq _ 47).mpr e)
          refine awp_seq ?_
          -- region 15  columns.go:72
          refine awp_rseq [1, 2, 6, 8, 12, 13, 53, 59] (by rfl) fun K hK => ?_
          simp (decide := true) only [aOps_nil, ev, absV, absS, putD, Slots.put, Slots.get, Slots.keep, if_true, if_false, true_and, ↓ap_binOp, pop_binOp, isNilC_int, cond_false, pBinX_int, pI_eql, ↓ap_assign, pop_assign]
          repeat (with_reducible refine And.intro ?_ ?_; · first | trivial | omega | (intro hg; simp only [Bool.and_eq_true, Bool.or_eq_true, Bool.not_eq_true', Bool.and_eq_false_iff, Bool.or_eq_false_iff, Bool.not_eq_false', decide_eq_true_eq, decide_eq_false_iff_not, eqNil] at hg; omega) )
          apply hK; clear hK K
          refine awp_cond (b := _) rfl (fun hb10 => ?_) (fun hb10 => ?_)
          · try simp only [decide_eq_true_eq] at hb10
            refine awp_skip ?_
            change Awp _ _ _ _ _ _ _
            refine awp_cond (b := _) rfl (fun hb11 => ?_) (fun hb11 => ?_)
            · try simp only [decide_eq_true_eq] at hb11
              -- region 17  columns.go:73
              refine awp_rseq [6, 7, 8] (by rfl) fun K hK => ?_
              simp (decide := true) only [ev, absV, absS, putD, Slots.put, Slots.get, if_true, if_false, true_and, ↓ap_loadL, apL_mk, pLoad_agg ag73 sz73, ↓ap_move, pop_move, ↓ag_move, agP, agQ_some, nthDst, gKnown_bool, guardB_bool_true, implies_true, Bool.and_true, ↓ag_binOp, pop_binOp, isNilC_str, cond_false, cv_binl, cp_binl, pBinX_str, pS_neq, ↓ap_pick, pop_pick, pPick_bool, pickV_cond_l, pickV_and, ↓ap_build, ↓pop_buildL, bld34_, evP, List.map_nil, rd_any, cellsAt, List.getD_cons_zero, List.getD_cons_succ, Nat.zero_add, Nat.reduceAdd, lv_bool, lv_int, lv_str, allLive, Bool.and_true]
              repeat (with_reducible refine And.intro ?_ ?_; · first | trivial | omega | (intro hg; simp only [Bool.and_eq_true, Bool.or_eq_true, Bool.not_eq_true', Bool.and_eq_false_iff, Bool.or_eq_false_iff, Bool.not_eq_false', decide_eq_true_eq, decide_eq_false_iff_not, eqNil] at hg; omega) )
              refine aOps_store (by rfl) (by rfl) (by repeat (first | exact AHeap.set_same _ _ _ | assumption | refine (AHeap.set_ne _ _ (by first | assumption | exact Ne.symm (by assumption))).trans ?_)) sz73 (by rfl) (by rfl) (by first | exact Nat.le_refl _ | decide | (simp; done) | (simp; omega)) (Nat.zero_le _) (by rfl) ?_
              simp only [AVal.cells]
              simp (decide := true) only [ev, putD, Slots.put, Slots.get, if_true, if_false, true_and, ↓ap_assign, pop_assign, setAt, List.set_cons_zero, List.set_cons_succ, Nat.zero_add, Nat.reduceAdd]
              repeat (with_reducible refine And.intro ?_ ?_; · first | trivial | omega | (intro hg; simp only [Bool.and_eq_true, Bool.or_eq_true, Bool.not_eq_true', Bool.and_eq_false_iff, Bool.or_eq_false_iff, Bool.not_eq_false', decide_eq_true_eq, decide_eq_false_iff_not, eqNil] at hg; omega) )
              refine aOps_store (by rfl) (by rfl) (by repeat (first | exact AHeap.set_same _ _ _ | assumption | refine (AHeap.set_ne _ _ (by first | assumption | exact Ne.symm (by assumption))).trans ?_)) sz34 (by rfl) (by rfl) (by first | exact Nat.le_refl _ | decide | (simp; done) | (simp; omega)) (Nat.zero_le _) (by rfl) ?_
              simp only [AVal.cells]
              simp (decide := true) only [aOps_nil, ev, putD, Slots.get, Slots.keep, if_true, if_false, setAt, List.set_cons_zero, List.set_cons_succ, Nat.zero_add, Nat.reduceAdd]
              repeat (with_reducible refine And.intro ?_ ?_; · first | trivial | omega | (intro hg; simp only [Bool.and_eq_true, Bool.or_eq_true, Bool.not_eq_true', Bool.and_eq_false_iff, Bool.or_eq_false_iff, Bool.not_eq_false', decide_eq_true_eq, decide_eq_false_iff_not, eqNil] at hg; omega) )
              apply hK; clear hK K
              refine awp_ret ?_
              try simp only [thenA_ret, inBlockA_ret]
              refine retA_ret h (by repeat (first | exact Sub.refl _ | assumption | refine Sub.trans_set ?_ (by assumption))) (?_) ?_
              · simp (decide := true) only [resPre, resV_tmp, resV_cell, Slots.get, if_true, if_false, and_true, resV_tmp, resV_cell, pLoad_agg ag73 sz73, pLoad_agg ag34 sz34, rd_set, cellsAt, List.getD_cons_zero, List.getD_cons_succ, Nat.zero_add, Nat.reduceAdd, lv_bool, lv_int, lv_str, allLive, Bool.and_true, rd_ne', ne_eq, not_false_eq_true, ne_0q2_0q0.symm, cellsAt, List.getD_cons_zero, List.getD_cons_succ, Nat.zero_add, Nat.reduceAdd, lv_bool, lv_int, lv_str, allLive, Bool.and_true]
              
              simp (decide := true) only [Slots.get, if_true, if_false, and_true, resOfG_three, resV_tmp, resV_cell, pLoad_agg ag73 sz73, pLoad_agg ag34 sz34, rd_set, cellsAt, List.getD_cons_zero, List.getD_cons_succ, Nat.zero_add, Nat.reduceAdd, lv_bool, lv_int, lv_str, allLive, Bool.and_true, rd_ne', ne_eq, not_false_eq_true, ne_0q2_0q0.symm, cellsAt, List.getD_cons_zero, List.getD_cons_succ, Nat.zero_add, Nat.reduceAdd, lv_bool, lv_int, lv_str, allLive, Bool.and_true]
              rw [hln, if_neg n1, if_pos (.inl ((u8_eq _ 68).mp hb10))]
              rfl
            · try simp only [decide_eq_false_iff_not] at hb11
              exact absurd hb10 hb11
          · try simp only [decide_eq_false_iff_not] at hb10
            -- region 16  columns.go:72
            refine awp_r [1, 2, 6, 8, 12, 13, 53, 59] (by rfl) ?_
            simp (decide := true) only [aOps_nil, ev, absV, absS, putD, Slots.put, Slots.get, Slots.keep, if_true, if_false, true_and, ↓ap_binOp, pop_binOp, isNilC_int, cond_false, pBinX_int, pI_eql, ↓ap_assign, pop_assign]
            repeat (with_reducible refine And.intro ?_ ?_; · first | trivial | omega | (intro hg; simp only [Bool.and_eq_true, Bool.or_eq_true, Bool.not_eq_true', Bool.and_eq_false_iff, Bool.or_eq_false_iff, Bool.not_eq_false', decide_eq_true_eq, decide_eq_false_iff_not, eqNil] at hg; omega) )
            change Awp _ _ _ _ _ _ _
            refine awp_cond (b := _) rfl (fun hb14 => ?_) (fun hb14 => ?_)
            · try simp only [decide_eq_true_eq] at hb14
              -- region 17  columns.go:73
              refine awp_rseq [6, 7, 8] (by rfl) fun K hK => ?_
              simp (decide := true) only [ev, absV, absS, putD, Slots.put, Slots.get, if_true, if_false, true_and, ↓ap_loadL, apL_mk, pLoad_agg ag73 sz73, ↓ap_move, pop_move, ↓ag_move, agP, agQ_some, nthDst, gKnown_bool, guardB_bool_true, implies_true, Bool.and_true, ↓ag_binOp, pop_binOp, isNilC_str, cond_false, cv_binl, cp_binl, pBinX_str, pS_neq, ↓ap_pick, pop_pick, pPick_bool, pickV_cond_l, pickV_and, ↓ap_build, ↓pop_buildL, bld34_, evP, List.map_nil, rd_any, cellsAt, List.getD_cons_zero, List.getD_cons_succ, Nat.zero_add, Nat.reduceAdd, lv_bool, lv_int, lv_str, allLive, Bool.and_true]
              repeat (with_reducible refine And.intro ?_ ?_; · first | trivial | omega | (intro hg; simp only [Bool.and_eq_true, Bool.or_eq_true, Bool.not_eq_true', Bool.and_eq_false_iff, Bool.or_eq_false_iff, Bool.not_eq_false', decide_eq_true_eq, decide_eq_false_iff_not, eqNil] at hg; omega) )
              refine aOps_store (by rfl) (by rfl) (by repeat (first | exact AHeap.set_same _ _ _ | assumption | refine (AHeap.set_ne _ _ (by first | assumption | exact Ne.symm (by assumption))).trans ?_)) sz73 (by rfl) (by rfl) (by first | exact Nat.le_refl _ | decide | (simp; done) | (simp; omega)) (Nat.zero_le _) (by rfl) ?_
              simp only [AVal.cells]
              simp (decide := true) only [ev, putD, Slots.put, Slots.get, if_true, if_false, true_and, ↓ap_assign, pop_assign, setAt, List.set_cons_zero, List.set_cons_succ, Nat.zero_add, Nat.reduceAdd]
              repeat (with_reducible refine And.intro ?_ ?_; · first | trivial | omega | (intro hg; simp only [Bool.and_eq_true, Bool.or_eq_true, Bool.not_eq_true', Bool.and_eq_false_iff, Bool.or_eq_false_iff, Bool.not_eq_false', decide_eq_true_eq, decide_eq_false_iff_not, eqNil] at hg; omega) )
              refine aOps_store (by rfl) (by rfl) (by repeat (first | exact AHeap.set_same _ _ _ | assumption | refine (AHeap.set_ne _ _ (by first | assumption | exact Ne.symm (by assumption))).trans ?_)) sz34 (by rfl) (by rfl) (by first | exact Nat.le_refl _ | decide | (simp; done) | (simp; omega)) (Nat.zero_le _) (by rfl) ?_
              simp only [AVal.cells]
              simp (decide := true) only [aOps_nil, ev, putD, Slots.get, Slots.keep, if_true, if_false, setAt, List.set_cons_zero, List.set_cons_succ, Nat.zero_add, Nat.reduceAdd]
              repeat (with_reducible refine And.intro ?_ ?_; · first | trivial | omega | (intro hg; simp only [Bool.and_eq_true, Bool.or_eq_true, Bool.not_eq_true', Bool.and_eq_false_iff, Bool.or_eq_false_iff, Bool.not_eq_false', decide_eq_true_eq, decide_eq_false_iff_not, eqNil] at hg; omega) )
              apply hK; clear hK K
              refine awp_ret ?_
              try simp only [thenA_ret, inBlockA_ret]
              refine retA_ret h (by repeat (first | exact Sub.refl _ | assumption | refine Sub.trans_set ?_ (by assumption))) (?_) ?_
              · simp (decide := true) only [resPre, resV_tmp, resV_cell, Slots.get, if_true, if_false, and_true, resV_tmp, resV_cell, pLoad_agg ag73 sz73, pLoad_agg ag34 sz34, rd_set, cellsAt, List.getD_cons_zero, List.getD_cons_succ, Nat.zero_add, Nat.reduceAdd, lv_bool, lv_int, lv_str, allLive, Bool.and_true, rd_ne', ne_eq, not_false_eq_true, ne_0q2_0q0.symm, cellsAt, List.getD_cons_zero, List.getD_cons_succ, Nat.zero_add, Nat.reduceAdd, lv_bool, lv_int, lv_str, allLive, Bool.and_true]
              
              simp (decide := true) only [Slots.get, if_true, if_false, and_true, resOfG_three, resV_tmp, resV_cell, pLoad_agg ag73 sz73, pLoad_agg ag34 sz34, rd_set, cellsAt, List.getD_cons_zero, List.getD_cons_succ, Nat.zero_add, Nat.reduceAdd, lv_bool, lv_int, lv_str, allLive, Bool.and_true, rd_ne', ne_eq, not_false_eq_true, ne_0q2_0q0.symm, cellsAt, List.getD_cons_zero, List.getD_cons_succ, Nat.zero_add, Nat.reduceAdd, lv_bool, lv_int, lv_str, allLive, Bool.and_true]
              rw [hln, if_neg n1, if_pos (.inr ((u8_eq _ 100).mp hb14))]
              rfl
            · try simp only [decide_eq_false_iff_not] at hb14
              have n2 : ¬ ((padE s).getD 6 0 = 68 ∨ (padE s).getD 6 0 = 100) := by
                rintro (e | e)
                · exact hb10 ((u8_eq _ 68).mpr e)
                · exact hb14 ((u8_eq _ 100).mpr e)
              refine awp_seq ?_
              -- region 18  columns.go:74
              refine awp_rseq [1, 6, 8, 12, 13, 53, 69] (by rfl) fun K hK => ?_
              simp (decide := true) only [aOps_nil, ev, absV, absS, putD, Slots.put, Slots.get, Slots.keep, if_true, if_false, true_and, ↓ap_binOp, pop_binOp, isNilC_int, cond_false, pBinX_int, pI_eql, ↓ap_assign, pop_assign]
              repeat (with_reducible refine And.intro ?_ ?_; · first | trivial | omega | (intro hg; simp only [Bool.and_eq_true, Bool.or_eq_true, Bool.not_eq_true', Bool.and_eq_false_iff, Bool.or_eq_false_iff, Bool.not_eq_false', decide_eq_true_eq, decide_eq_false_iff_not, eqNil] at hg; omega) )
              apply hK; clear hK K
              refine awp_cond (b := _) rfl (fun hb15 => ?_) (fun hb15 => ?_)
              · try simp only [decide_eq_true_eq] at hb15
                refine awp_skip ?_
                change Awp _ _ _ _ _ _ _
                refine awp_cond (b := _) rfl (fun hb16 => ?_) (fun hb16 => ?_)
                · try simp only [decide_eq_true_eq] at hb16
                  -- region 20  columns.go:75
                  refine awp_rseq [6, 7, 8] (by rfl) fun K hK => ?_
                  simp (decide := true) only [ev, absV, absS, putD, Slots.put, Slots.get, if_true, if_false, true_and, ↓ap_loadL, apL_mk, pLoad_agg ag73 sz73, ↓ap_move, pop_move, ↓ap_binOp, pop_binOp, isNilC_str, cond_false, pBinX_str, pS_neq, ↓ap_build, ↓pop_buildL, bld34_, evP, List.map_nil, rd_any, cellsAt, List.getD_cons_zero, List.getD_cons_succ, Nat.zero_add, Nat.reduceAdd, lv_bool, lv_int, lv_str, allLive, Bool.and_true]
                  repeat (with_reducible refine And.intro ?_ ?_; · first | trivial | omega | (intro hg; simp only [Bool.and_eq_true, Bool.or_eq_true, Bool.not_eq_true', Bool.and_eq_false_iff, Bool.or_eq_false_iff, Bool.not_eq_false', decide_eq_true_eq, decide_eq_false_iff_not, eqNil] at hg; omega) )
                  refine aOps_store (by rfl) (by rfl) (by repeat (first | exact AHeap.set_same _ _ _ | assumption | refine (AHeap.set_ne _ _ (by first | assumption | exact Ne.symm (by assumption))).trans ?_)) sz73 (by rfl) (by rfl) (by first | exact Nat.le_refl _ | decide | (simp; done) | (simp; omega)) (Nat.zero_le _) (by rfl) ?_
                  simp only [AVal.cells]
                  simp (decide := true) only [ev, putD, Slots.put, Slots.get, if_true, if_false, true_and, ↓ap_assign, pop_assign, setAt, List.set_cons_zero, List.set_cons_succ, Nat.zero_add, Nat.reduceAdd]
                  repeat (with_reducible refine And.intro ?_ ?_; · first | trivial | omega | (intro hg; simp only [Bool.and_eq_true, Bool.or_eq_true, Bool.not_eq_true', Bool.and_eq_false_iff, Bool.or_eq_false_iff, Bool.not_eq_false', decide_eq_true_eq, decide_eq_false_iff_not, eqNil] at hg; omega) )
                  refine aOps_store (by rfl) (by rfl) (by repeat (first | exact AHeap.set_same _ _ _ | assumption | refine (AHeap.set_ne _ _ (by first | assumption | exact Ne.symm (by assumption))).trans ?_)) sz34 (by rfl) (by rfl) (by first | exact Nat.le_refl _ | decide | (simp; done) | (simp; omega)) (Nat.zero_le _) (by rfl) ?_
                  simp only [AVal.cells]
                  simp (decide := true) only [aOps_nil, ev, putD, Slots.get, Slots.keep, if_true, if_false, setAt, List.set_cons_zero, List.set_cons_succ, Nat.zero_add, Nat.reduceAdd]
                  repeat (with_reducible refine And.intro ?_ ?_; · first | trivial | omega | (intro hg; simp only [Bool.and_eq_true, Bool.or_eq_true, Bool.not_eq_true', Bool.and_eq_false_iff, Bool.or_eq_false_iff, Bool.not_eq_false', decide_eq_true_eq, decide_eq_false_iff_not, eqNil] at hg; omega) )
                  apply hK; clear hK K
                  refine awp_ret ?_
                  try simp only [thenA_ret, inBlockA_ret]
                  refine retA_ret h (by repeat (first | exact Sub.refl _ | assumption | refine Sub.trans_set ?_ (by assumption))) (?_) ?_
                  · simp (decide := true) only [resPre, resV_tmp, resV_cell, Slots.get, if_true, if_false, and_true, resV_tmp, resV_cell, pLoad_agg ag73 sz73, pLoad_agg ag34 sz34, rd_set, cellsAt, List.getD_cons_zero, List.getD_cons_succ, Nat.zero_add, Nat.reduceAdd, lv_bool, lv_int, lv_str, allLive, Bool.and_true, rd_ne', ne_eq, not_false_eq_true, ne_0q2_0q0.symm, cellsAt, List.getD_cons_zero, List.getD_cons_succ, Nat.zero_add, Nat.reduceAdd, lv_bool, lv_int, lv_str, allLive, Bool.and_true]
                  
                  simp (decide := true) only [Slots.get, if_true, if_false, and_true, resOfG_three, resV_tmp, resV_cell, pLoad_agg ag73 sz73, pLoad_agg ag34 sz34, rd_set, cellsAt, List.getD_cons_zero, List.getD_cons_succ, Nat.zero_add, Nat.reduceAdd, lv_bool, lv_int, lv_str, allLive, Bool.and_true, rd_ne', ne_eq, not_false_eq_true, ne_0q2_0q0.symm, cellsAt, List.getD_cons_zero, List.getD_cons_succ, Nat.zero_add, Nat.reduceAdd, lv_bool, lv_int, lv_str, allLive, Bool.and_true]
                  rw [hln, if_neg n1, if_neg n2, if_pos (.inl ((u8_eq _ 32).mp hb15))]
                  rfl
                · try simp only [decide_eq_false_iff_not] at hb16
                  exact absurd hb15 hb16
              · try simp only [decide_eq_false_iff_not] at hb15
                -- region 19  columns.go:74
                refine awp_r [1, 6, 8, 12, 13, 69] (by rfl) ?_
                simp (decide := true) only [aOps_nil, ev, absV, absS, putD, Slots.put, Slots.get, Slots.keep, if_true, if_false, true_and, ↓ap_binOp, pop_binOp, isNilC_int, cond_false, pBinX_int, pI_eql, ↓ap_assign, pop_assign]
                repeat (with_reducible refine And.intro ?_ ?_; · first | trivial | omega | (intro hg; simp only [Bool.and_eq_true, Bool.or_eq_true, Bool.not_eq_true', Bool.and_eq_false_iff, Bool.or_eq_false_iff, Bool.not_eq_false', decide_eq_true_eq, decide_eq_false_iff_not, eqNil] at hg; omega) )
                change Awp _ _ _ _ _ _ _
                refine awp_cond (b := _) rfl (fun hb17 => ?_) (fun hb17 => ?_)
                · try simp only [decide_eq_true_eq] at hb17
                  -- region 20  columns.go:75
                  refine awp_rseq [6, 7, 8] (by rfl) fun K hK => ?_
                  simp (decide := true) only [ev, absV, absS, putD, Slots.put, Slots.get, if_true, if_false, true_and, ↓ap_loadL, apL_mk, pLoad_agg ag73 sz73, ↓ap_move, pop_move, ↓ap_binOp, pop_binOp, isNilC_str, cond_false, pBinX_str, pS_neq, ↓ap_build, ↓pop_buildL, bld34_, evP, List.map_nil, rd_any, cellsAt, List.getD_cons_zero, List.getD_cons_succ, Nat.zero_add, Nat.reduceAdd, lv_bool, lv_int, lv_str, allLive, Bool.and_true]
                  repeat (with_reducible refine And.intro ?_ ?_; · first | trivial | omega | (intro hg; simp only [Bool.and_eq_true, Bool.or_eq_true, Bool.not_eq_true', Bool.and_eq_false_iff, Bool.or_eq_false_iff, Bool.not_eq_false', decide_eq_true_eq, decide_eq_false_iff_not, eqNil] at hg; omega) )
                  refine aOps_store (by rfl) (by rfl) (by repeat (first | exact AHeap.set_same _ _ _ | assumption | refine (AHeap.set_ne _ _ (by first | assumption | exact Ne.symm (by assumption))).trans ?_)) sz73 (by rfl) (by rfl) (by first | exact Nat.le_refl _ | decide | (simp; done) | (simp; omega)) (Nat.zero_le _) (by rfl) ?_
                  simp only [AVal.cells]
                  simp (decide := true) only [ev, putD, Slots.put, Slots.get, if_true, if_false, true_and, ↓ap_assign, pop_assign, setAt, List.set_cons_zero, List.set_cons_succ, Nat.zero_add, Nat.reduceAdd]
                  repeat (with_reducible refine And.intro ?_ ?_; · first | trivial | omega | (intro hg; simp only [Bool.and_eq_true, Bool.or_eq_true, Bool.not_eq_true', Bool.and_eq_false_iff, Bool.or_eq_false_iff, Bool.not_eq_false', decide_eq_true_eq, decide_eq_false_iff_not, eqNil] at hg; omega) )
                  refine aOps_store (by rfl) (by rfl) (by repeat (first | exact AHeap.set_same _ _ _ | assumption | refine (AHeap.set_ne _ _ (by first | assumption | exact Ne.symm (by assumption))).trans ?_)) sz34 (by rfl) (by rfl) (by first | exact Nat.le_refl _ | decide | (simp; done) | (simp; omega)) (Nat.zero_le _) (by rfl) ?_
                  simp only [AVal.cells]
                  simp (decide := true) only [aOps_nil, ev, putD, Slots.get, Slots.keep, if_true, if_false, setAt, List.set_cons_zero, List.set_cons_succ, Nat.zero_add, Nat.reduceAdd]
                  repeat (with_reducible refine And.intro ?_ ?_; · first | trivial | omega | (intro hg; simp only [Bool.and_eq_true, Bool.or_eq_true, Bool.not_eq_true', Bool.and_eq_false_iff, Bool.or_eq_false_iff, Bool.not_eq_false', decide_eq_true_eq, decide_eq_false_iff_not, eqNil] at hg; omega) )
                  apply hK; clear hK K
                  refine awp_ret ?_
                  try simp only [thenA_ret, inBlockA_ret]
                  refine retA_ret h (by repeat (first | exact Sub.refl _ | assumption | refine Sub.trans_set ?_ (by assumption))) (?_) ?_
                  · simp (decide := true) only [resPre, resV_tmp, resV_cell, Slots.get, if_true, if_false, and_true, resV_tmp, resV_cell, pLoad_agg ag73 sz73, pLoad_agg ag34 sz34, rd_set, cellsAt, List.getD_cons_zero, List.getD_cons_succ, Nat.zero_add, Nat.reduceAdd, lv_bool, lv_int, lv_str, allLive, Bool.and_true, rd_ne', ne_eq, not_false_eq_true, ne_0q2_0q0.symm, cellsAt, List.getD_cons_zero, List.getD_cons_succ, Nat.zero_add, Nat.reduceAdd, lv_bool, lv_int, lv_str, allLive, Bool.and_true]
                  
                  simp (decide := true) only [Slots.get, if_true, if_false, and_true, resOfG_three, resV_tmp, resV_cell, pLoad_agg ag73 sz73, pLoad_agg ag34 sz34, rd_set, cellsAt, List.getD_cons_zero, List.getD_cons_succ, Nat.zero_add, Nat.reduceAdd, lv_bool, lv_int, lv_str, allLive, Bool.and_true, rd_ne', ne_eq, not_false_eq_true, ne_0q2_0q0.symm, cellsAt, List.getD_cons_zero, List.getD_cons_succ, Nat.zero_add, Nat.reduceAdd, lv_bool, lv_int, lv_str, allLive, Bool.and_true]
                  rw [hln, if_neg n1, if_neg n2, if_pos (.inr ((u8_eq _ 45).mp hb17))]
                  rfl
                · try simp only [decide_eq_false_iff_not] at hb17
                  refine awp_skip ?_
                  change Awp _ _ _ _ _ _ _
                  -- region 21  columns.go:77
                  refine awp_dseq_anyT 3 [6, 7, 8] mixed (by kernel_rfl) (by rfl) fun K hK => ?_
                  simp only [List.take_succ_cons, List.take_zero, List.drop_succ_cons, List.drop_zero]
                  simp (decide := true) only [ev, putD, Slots.put, Slots.get, if_true, if_false, true_and, ↓vp_load, pop_load, pLoad_agg ag73 sz73, ↓vp_move, pop_move, rd_any, cellsAt, List.getD_cons_zero, List.getD_cons_succ, Nat.zero_add, Nat.reduceAdd, lv_bool, lv_int, lv_str, allLive, Bool.and_true]
                  repeat (with_reducible refine And.intro ?_ ?_; · first | trivial | omega | (intro hg; simp only [Bool.and_eq_true, Bool.or_eq_true, Bool.not_eq_true', Bool.and_eq_false_iff, Bool.or_eq_false_iff, Bool.not_eq_false', decide_eq_true_eq, decide_eq_false_iff_not, eqNil] at hg; omega) )
                  refine vOps_callV (V := faultA ⟨4, line, 7⟩) (by rfl) (by rfl) (c_fault w₀ _ 4 line 7) ?_
                  repeat (with_reducible refine And.intro ?_ ?_; · first | trivial | omega | (intro hg; simp only [Bool.and_eq_true, Bool.or_eq_true, Bool.not_eq_true', Bool.and_eq_false_iff, Bool.or_eq_false_iff, Bool.not_eq_false', decide_eq_true_eq, decide_eq_false_iff_not, eqNil] at hg; omega) )
                  try simp only [vOps_nil]
                  refine aOps_store (by rfl) (by rfl) (by repeat (first | exact AHeap.set_same _ _ _ | assumption | refine (AHeap.set_ne _ _ (by first | assumption | exact Ne.symm (by assumption))).trans ?_)) sz73 (by rfl) (by rfl) (by first | exact Nat.le_refl _ | decide | (simp; done) | (simp; omega)) (Nat.zero_le _) (by rfl) ?_
                  simp only [AVal.cells]
                  simp (decide := true) only [ev, absV, absS, putD, Slots.put, Slots.get, if_true, if_false, true_and, ↓ap_assign, pop_assign, setAt, List.set_cons_zero, List.set_cons_succ, Nat.zero_add, Nat.reduceAdd, faultA]
                  repeat (with_reducible refine And.intro ?_ ?_; · first | trivial | omega | (intro hg; simp only [Bool.and_eq_true, Bool.or_eq_true, Bool.not_eq_true', Bool.and_eq_false_iff, Bool.or_eq_false_iff, Bool.not_eq_false', decide_eq_true_eq, decide_eq_false_iff_not, eqNil] at hg; omega) )
                  refine aOps_store (by rfl) (by rfl) (by repeat (first | exact AHeap.set_same _ _ _ | assumption | refine (AHeap.set_ne _ _ (by first | assumption | exact Ne.symm (by assumption))).trans ?_)) sz34 (by rfl) (by rfl) (by first | exact Nat.le_refl _ | decide | (simp; done) | (simp; omega)) (Nat.zero_le _) (by rfl) ?_
                  simp only [AVal.cells]
                  simp (decide := true) only [aOps_nil, ev, putD, Slots.get, Slots.keep, if_true, if_false, setAt, List.set_cons_zero, List.set_cons_succ, Nat.zero_add, Nat.reduceAdd]
                  repeat (with_reducible refine And.intro ?_ ?_; · first | trivial | omega | (intro hg; simp only [Bool.and_eq_true, Bool.or_eq_true, Bool.not_eq_true', Bool.and_eq_false_iff, Bool.or_eq_false_iff, Bool.not_eq_false', decide_eq_true_eq, decide_eq_false_iff_not, eqNil] at hg; omega) )
                  apply hK; clear hK K
                  refine awp_ret ?_
                  try simp only [thenA_ret, inBlockA_ret]
                  refine retA_ret h (by repeat (first | exact Sub.refl _ | assumption | refine Sub.trans_set ?_ (by assumption))) (?_) ?_
                  · simp (decide := true) only [resPre, resV_tmp, resV_cell, Slots.get, if_true, if_false, and_true, resV_tmp, resV_cell, pLoad_agg ag73 sz73, pLoad_agg ag34 sz34, rd_set, cellsAt, List.getD_cons_zero, List.getD_cons_succ, Nat.zero_add, Nat.reduceAdd, lv_bool, lv_int, lv_str, allLive, Bool.and_true, rd_ne', ne_eq, not_false_eq_true, ne_0q2_0q0.symm, cellsAt, List.getD_cons_zero, List.getD_cons_succ, Nat.zero_add, Nat.reduceAdd, lv_bool, lv_int, lv_str, allLive, Bool.and_true]
                  
                  simp (decide := true) only [Slots.get, if_true, if_false, and_true, resOfG_three, resV_tmp, resV_cell, pLoad_agg ag73 sz73, pLoad_agg ag34 sz34, rd_set, cellsAt, List.getD_cons_zero, List.getD_cons_succ, Nat.zero_add, Nat.reduceAdd, lv_bool, lv_int, lv_str, allLive, Bool.and_true, rd_ne', ne_eq, not_false_eq_true, ne_0q2_0q0.symm, cellsAt, List.getD_cons_zero, List.getD_cons_succ, Nat.zero_add, Nat.reduceAdd, lv_bool, lv_int, lv_str, allLive, Bool.and_true]
                  rw [hln, if_neg n1, if_neg n2, if_neg]
                  · rfl
                  · rintro (e | e)
                    · exact hb15 ((u8_eq _ 32).mpr e)
                    · exact hb17 ((u8_eq _ 45).mpr e)
end Go.Proofs.YtikpnhdjjabdmaaDoor

/-
  Contracts: the reader of the package columns: take.
  Conditions: none.
-/
namespace Go.Proofs.YtikpnhdjjabdmaaDoor
open Go.AM
open Go.Proofs
open Go.Col
set_option maxRecDepth 100000

def rdCells (cb : Option Buf) (x : Rd) : List AVal := [bufV 3 cb, .int .i64 x.line, .int .i64 x.col, .bool x.odd]
/-- The reader's heap: its struct, its cards, the marks of the last card; all else lies in B (the marks of the other cards in M). -/
def rdH (kx : Nat) (B : AHeap) (cb mb : Option Buf) (x : Rd) : AHeap := bufH (bufH (B.set kx ⟨rdCells cb x, 0⟩) cb) mb
def cell3 (p : CardC × AVal) : List AVal := [.bool p.1.left, .str p.1.text, p.2]
structure RdInv (w₀ : World) (h : AHeap) (kx : Nat) (B M : AHeap) (cb mb : Option Buf) (x : Rd) : Prop where
  sub : Sub h B
  subM : Sub M B
  hk : B kx = none
  okc : bufOk (B.set kx ⟨rdCells cb x, 0⟩) 3 cb
  okm : bufOk (bufH (B.set kx ⟨rdCells cb x, 0⟩) cb) 3 mb
  cards : (x.cards = [] ∧ cb = none ∧ mb = none) ∨ ∃ (done : List (CardC × AVal)) (c : CardC) (kc : Nat), x.cards = done.map (·.1) ++ [c] ∧ cb = some ⟨kc, (done.map cell3).flatten ++ [.bool c.left, .str c.text, bufV 3 mb]⟩ ∧ bufC mb = (c.marks.map markC).flatten ∧ ∀ p ∈ done, IsL w₀ M 3 p.2 (p.1.marks.map markC)

theorem bufNew {H : AHeap} {b : Option Buf} {j : Nat} (hj : bufH H b j = none) (c : Blk) : (bufH H b).set j c = bufH (H.set j c) b ∧ H j = none := by
  cases b with
  | none => exact ⟨rfl, hj⟩
  | some b =>
    have hne : j ≠ b.blk := fun e => by subst e; rw [show bufH H (some b) = H.set b.blk ⟨b.cells, 0⟩ from rfl, AHeap.set_same] at hj; cases hj
    exact ⟨AHeap.set_comm _ _ _ hne, by rw [show bufH H (some b) = H.set b.blk ⟨b.cells, 0⟩ from rfl, AHeap.set_ne _ _ hne] at hj; exact hj⟩
theorem bufOkNew {H : AHeap} {es : Nat} {b : Option Buf} (hb : bufOk H es b) {j : Nat} (hj : bufH H b j = none) (c : Blk) : bufOk (H.set j c) es b := by
  cases b with
  | none => trivial
  | some b =>
    refine ⟨?_, hb.2⟩
    have hne : j ≠ b.blk := fun e => by subst e; rw [show bufH H (some b) = H.set b.blk ⟨b.cells, 0⟩ from rfl, AHeap.set_same] at hj; cases hj
    rw [AHeap.set_ne _ _ hne.symm]
    exact hb.1
/-- Two growing slices beside each other. -/
theorem bufSwap {H : AHeap} {es : Nat} {a b : Option Buf} (ha : bufOk H es a) (hb : bufOk (bufH H a) es b) : bufH (bufH H a) b = bufH (bufH H b) a ∧ bufOk H es b ∧ bufOk (bufH H b) es a := by
  cases a with
  | none => exact ⟨rfl, hb, trivial⟩
  | some a =>
    cases b with
    | none => exact ⟨rfl, trivial, ha⟩
    | some b =>
      have hne : b.blk ≠ a.blk := fun e => by
        have := hb.1
        rw [e, show bufH H (some a) = H.set a.blk ⟨a.cells, 0⟩ from rfl, AHeap.set_same] at this
        cases this
      have hb1 : H b.blk = none := by
        have := hb.1
        rwa [show bufH H (some a) = H.set a.blk ⟨a.cells, 0⟩ from rfl, AHeap.set_ne _ _ hne] at this
      exact ⟨AHeap.set_comm _ _ _ hne, ⟨hb1, hb.2⟩, ⟨(AHeap.set_ne _ _ hne.symm).trans ha.1, ha.2⟩⟩
theorem rdH_new {w₀ : World} {h : AHeap} {kx : Nat} {B M : AHeap} {cb mb : Option Buf} {x : Rd} (hi : RdInv w₀ h kx B M cb mb x) {j : Nat} (hj : rdH kx B cb mb x j = none) (c : Blk) :
    (rdH kx B cb mb x).set j c = rdH kx (B.set j c) cb mb x ∧ RdInv w₀ h kx (B.set j c) M cb mb x ∧ j ≠ kx ∧ B j = none := by
  unfold rdH at hj
  obtain ⟨e1, h1⟩ := bufNew hj c
  obtain ⟨e2, h2⟩ := bufNew h1 c
  have hne : j ≠ kx := fun e => by subst e; rw [AHeap.set_same] at h2; cases h2
  have h3 : B j = none := by rwa [AHeap.set_ne _ _ hne] at h2
  have e3 : (B.set kx ⟨rdCells cb x, 0⟩).set j c = (B.set j c).set kx ⟨rdCells cb x, 0⟩ := AHeap.set_comm _ _ _ hne
  refine ⟨?_, ⟨Sub.trans_set hi.sub (hi.sub.none h3), Sub.trans_set hi.subM (hi.subM.none h3), (AHeap.set_ne _ _ hne.symm).trans hi.hk, ?_, ?_, hi.cards⟩, hne, h3⟩
  · unfold rdH
    rw [e1, e2, e3]
  · rw [← e3]
    exact bufOkNew hi.okc h1 c
  · rw [← e3, ← e2]
    exact bufOkNew hi.okm hj c
section
variable {w₀ : World} {h : AHeap} {kx : Nat} {B M : AHeap} {cb mb : Option Buf} {x : Rd}
theorem RdInv.at (hi : RdInv w₀ h kx B M cb mb x) : rdH kx B cb mb x kx = some ⟨rdCells cb x, 0⟩ := bufAt hi.okm (bufAt hi.okc (AHeap.set_same _ _ _))
theorem RdInv.other (hi : RdInv w₀ h kx B M cb mb x) {j : Nat} {c : Blk} (hj : B j = some c) : rdH kx B cb mb x j = some c :=
  bufAt hi.okm (bufAt hi.okc ((AHeap.set_ne _ _ (fun e => by subst e; rw [hi.hk] at hj; cases hj)).trans hj))
theorem RdInv.above (hi : RdInv w₀ h kx B M cb mb x) : Sub h (rdH kx B cb mb x) := fun _ _ hj => hi.other (hi.sub _ _ hj)
/-- A block beside is written. -/
theorem RdInv.put (hi : RdInv w₀ h kx B M cb mb x) {j : Nat} {c : Blk} (hj : B j = some c) (hh : h j = none) (hM : M j = none) (d : Blk) : (rdH kx B cb mb x).set j d = rdH kx (B.set j d) cb mb x ∧ RdInv w₀ h kx (B.set j d) M cb mb x := by
  have hne : j ≠ kx := fun e => by subst e; rw [hi.hk] at hj; cases hj
  have hj1 : B.set kx ⟨rdCells cb x, 0⟩ j = some c := (AHeap.set_ne _ _ hne).trans hj
  have e3 : (B.set kx ⟨rdCells cb x, 0⟩).set j d = (B.set j d).set kx ⟨rdCells cb x, 0⟩ := AHeap.set_comm _ _ _ hne
  refine ⟨?_, ⟨Sub.trans_set hi.sub hh, Sub.trans_set hi.subM hM, (AHeap.set_ne _ _ hne.symm).trans hi.hk, ?_, ?_, hi.cards⟩⟩
  · unfold rdH
    rw [bufSet hi.okm (bufAt hi.okc hj1), bufSet hi.okc hj1, e3]
  · rw [← e3]
    exact bufOkSet hi.okc hj1 d
  · rw [← e3, ← bufSet hi.okc hj1]
    exact bufOkSet hi.okm (bufAt hi.okc hj1) d
theorem cell3_wide : ∀ p : CardC × AVal, (cell3 p).length = 3 := fun _ => rfl
theorem RdInv.many (hi : RdInv w₀ h kx B M cb mb x) : (bufC cb).length / 3 = x.cards.length := by
  rcases hi.cards with ⟨c1, c2, _⟩ | ⟨done, c', kc, c1, c2, c3, c4⟩
  · rw [c1, c2]; rfl
  · rw [c1, c2]
    simp only [bufC, List.length_append, List.length_map, List.length_cons, List.length_nil]
    rw [flatten_len (es := 3) (by intro y hy; obtain ⟨p, _, rfl⟩ := List.mem_map.1 hy; rfl), List.length_map]
    omega
theorem buf_len (P : Program) {t e : TypeId} (ht : P.underlying t = some (.slice e)) (es : Nat) (b : Option Buf) : pLen P t (bufV es b) = ⟨True, .int .i64 ((bufC b).length / es : Nat)⟩ := by
  cases b with
  | none => simp [bufV, bufC, pLen, ht]
  | some b => simp only [bufV, bufC, pLen, ht]
end
end Go.Proofs.YtikpnhdjjabdmaaDoor

/-
  Contracts: the reader of the package columns: take, walked.
  Conditions: none.
-/
namespace Go.Proofs.YtikpnhdjjabdmaaDoor
open Go.AM
open Go.Proofs
open Go.Col
set_option maxRecDepth 100000

theorem addE_last {x : Rd} {l : List CardC} {c : CardC} (hx : x.cards = l ++ [c]) (line col : Int) (t : Str) : addE x line col t = ⟨l ++ [addC c line col t], line, col, oddQ (c.text ++ t)⟩ := by
  unfold addE
  rw [hx]
  simp
theorem bufV_some (es : Nat) (b : Buf) : bufV es (some b) = .slice (.own b.blk) 0 (b.cells.length / es) (.grow es) := rfl
/-- A part behind the last card, in the reader's heap. -/
theorem c_addR (w₀ : World) (h : AHeap) (kx : Nat) (B M : AHeap) (cb mb : Option Buf) (x : Rd) (hi : RdInv w₀ h kx B M cb mb x) (hx : x.cards ≠ []) (line col : Int) (t : Str) (hb : ∀ c ∈ x.cards, c.text.length ≤ 549755813888 ∧ c.marks.length ≤ 549755813888) (hn : x.cards.length ≤ 549755813888) (ht : t.length ≤ 80) :
    ACall Tryd.prog w₀ 56 [.ptr (.own kx) 0, .int .i64 line, .int .i64 col, .str t] (rdH kx B cb mb x)
      (fun v h' => v = .tuple [] ∧ ∃ cb' mb', h' = rdH kx B cb' mb' (addE x line col t) ∧ RdInv w₀ h kx B M cb' mb' (addE x line col t)) := by
  rcases hi.cards with ⟨c1, _⟩ | ⟨done, c, kc, c1, c2, c3, c4⟩
  · exact absurd c1 hx
  have hD : ((done.map cell3).flatten).length = done.length * 3 := by
    rw [flatten_len (es := 3) (by intro y hy; obtain ⟨p, _, rfl⟩ := List.mem_map.1 hy; rfl), List.length_map]
  have hlen : x.cards.length = done.length + 1 := by rw [c1]; simp
  have hcm : c ∈ x.cards := by rw [c1]; simp
  obtain ⟨b1, b2⟩ := hb c hcm
  have hokc := hi.okc
  have hokm := hi.okm
  have hL : ((done.map cell3).flatten ++ [.bool c.left, .str c.text, bufV 3 mb]).length / 3 = done.length + 1 := by
    rw [List.length_append, hD]
    simp only [List.length_cons, List.length_nil]
    omega
  have hv : bufV 3 cb = .slice (.own kc) 0 (done.length + 1) (.grow 3) := by
    rw [c2, bufV_some, hL]
  subst c2
  have hkc : kc ≠ kx := fun e => by
    have := hokc.1
    simp only [e, AHeap.set_same] at this
    cases this
  have hBc : B kc = none := by
    have := hokc.1
    rwa [AHeap.set_ne _ _ hkc] at this
  have call := c_add w₀ (bufH (B.set kx ⟨rdCells (some ⟨kc, (done.map cell3).flatten ++ [.bool c.left, .str c.text, bufV 3 mb]⟩) x, 0⟩) (some ⟨kc, (done.map cell3).flatten ++ [.bool c.left, .str c.text, bufV 3 mb]⟩)) kx kc (done.map cell3).flatten done.length mb c x.line x.col x.odd line col t
    (by rw [show bufH (B.set kx ⟨rdCells (some ⟨kc, (done.map cell3).flatten ++ [.bool c.left, .str c.text, bufV 3 mb]⟩) x, 0⟩) (some ⟨kc, (done.map cell3).flatten ++ [.bool c.left, .str c.text, bufV 3 mb]⟩) = (B.set kx ⟨rdCells (some ⟨kc, (done.map cell3).flatten ++ [.bool c.left, .str c.text, bufV 3 mb]⟩) x, 0⟩).set kc ⟨(done.map cell3).flatten ++ [.bool c.left, .str c.text, bufV 3 mb], 0⟩ from rfl, AHeap.set_ne _ _ hkc.symm, AHeap.set_same]; unfold rdCells; rw [hv])
    (AHeap.set_same _ _ _) hD hokm c3 (by omega) (by omega) (by omega)
  refine call.mono fun v h' hr => ?_
  obtain ⟨e1, mb', e2, o1, o2⟩ := hr
  have hadd := addE_last c1 line col t
  have hL' : ((done.map cell3).flatten ++ [.bool c.left, .str (addC c line col t).text, bufV 3 mb']).length / 3 = done.length + 1 := by
    rw [List.length_append, hD]
    simp only [List.length_cons, List.length_nil]
    omega
  have hcells : rdCells (some ⟨kc, (done.map cell3).flatten ++ [.bool c.left, .str (addC c line col t).text, bufV 3 mb']⟩) (addE x line col t) = [.slice (.own kc) 0 (done.length + 1) (.grow 3), .int .i64 line, .int .i64 col, .bool (oddQ (c.text ++ t))] := by
    unfold rdCells
    rw [hadd, bufV_some, hL']
  have hH : (((bufH (B.set kx ⟨rdCells (some ⟨kc, (done.map cell3).flatten ++ [.bool c.left, .str c.text, bufV 3 mb]⟩) x, 0⟩) (some ⟨kc, (done.map cell3).flatten ++ [.bool c.left, .str c.text, bufV 3 mb]⟩)).set kx ⟨[.slice (.own kc) 0 (done.length + 1) (.grow 3), .int .i64 line, .int .i64 col, .bool (oddQ (c.text ++ t))], 0⟩).set kc ⟨(done.map cell3).flatten ++ [.bool c.left, .str (addC c line col t).text, bufV 3 mb'], 0⟩)
      = bufH (B.set kx ⟨rdCells (some ⟨kc, (done.map cell3).flatten ++ [.bool c.left, .str (addC c line col t).text, bufV 3 mb']⟩) (addE x line col t), 0⟩) (some ⟨kc, (done.map cell3).flatten ++ [.bool c.left, .str (addC c line col t).text, bufV 3 mb']⟩) := by
    rw [hcells]
    simp only [bufH]
    rw [AHeap.set_comm _ _ _ hkc.symm, AHeap.set_set, AHeap.set_set]
  rw [hH] at e2 o1
  refine ⟨e1, _, mb', e2, ⟨hi.sub, hi.subM, hi.hk, ?_, o1, .inr ⟨done, addC c line col t, kc, by rw [hadd], ?_, o2, c4⟩⟩⟩
  · refine ⟨(AHeap.set_ne _ _ hkc).trans hBc, ?_, ?_⟩
    · rw [List.length_append, hD]
      simp only [List.length_cons, List.length_nil]
      omega
    · have hlv := hokc.2.2
      rw [allLive_append, Bool.and_eq_true] at hlv ⊢
      refine ⟨hlv.1, ?_⟩
      show (true && (true && ((bufV 3 mb').live && true))) = true
      rw [bufV_live]
      rfl
  · have hleft : (addC c line col t).left = c.left := rfl
    rw [hleft]

theorem bufPut {H : AHeap} {es : Nat} {b : Option Buf} {j : Nat} {c d : Blk} (hb : bufOk (H.set j c) es b) : bufH (H.set j d) b = (bufH H b).set j d ∧ bufOk H es b ∧ bufH H b j = H j := by
  cases b with
  | none => exact ⟨rfl, trivial, rfl⟩
  | some b =>
    have hne : b.blk ≠ j := fun e => by
      have := hb.1
      rw [e, AHeap.set_same] at this
      cases this
    have h1 : H b.blk = none := by have := hb.1; rwa [AHeap.set_ne _ _ hne] at this
    exact ⟨AHeap.set_comm _ _ _ hne, ⟨h1, hb.2⟩, AHeap.set_ne _ _ hne.symm⟩
theorem RdInv.chunks {w₀ : World} {h : AHeap} {kx : Nat} {B M : AHeap} {cb mb : Option Buf} {x : Rd} (hi : RdInv w₀ h kx B M cb mb x) : ∃ zs : List (List AVal), bufC cb = zs.flatten ∧ (∀ z ∈ zs, z.length = 3) ∧ zs.length = x.cards.length := by
  rcases hi.cards with ⟨c1, c2, _⟩ | ⟨done, c, kc, c1, c2, c3, c4⟩
  · exact ⟨[], by rw [c2]; rfl, by simp, by rw [c1]; rfl⟩
  · refine ⟨done.map cell3 ++ [[.bool c.left, .str c.text, bufV 3 mb]], by rw [c2]; simp [bufC], ?_, by rw [c1]; simp⟩
    intro z hz
    rw [List.mem_append] at hz
    rcases hz with hz | hz
    · obtain ⟨p, _, rfl⟩ := List.mem_map.1 hz; rfl
    · rw [List.mem_singleton.1 hz]; rfl
/-- A new card stands behind the others: the last card's marks are at rest. -/
theorem RdInv.push {w₀ : World} {h : AHeap} {kx : Nat} {B M : AHeap} {cb mb : Option Buf} {x : Rd} (hi : RdInv w₀ h kx B M cb mb x) (left : Bool) {cb' : Option Buf} {h5 : AHeap}
    (o1 : bufOk (bufH (B.set kx ⟨rdCells cb x, 0⟩) mb) 3 cb') (o2 : bufC cb' = bufC cb ++ [.bool left, .str [], .nilSlice]) (o3 : Sub (bufH (bufH (B.set kx ⟨rdCells cb x, 0⟩) mb) cb') h5) :
    RdInv w₀ h kx (bufH B mb) (bufH M mb) cb' none ⟨x.cards ++ [⟨left, [], []⟩], x.line, x.col, x.odd⟩ ∧ Sub (rdH kx (bufH B mb) cb' none ⟨x.cards ++ [⟨left, [], []⟩], x.line, x.col, x.odd⟩) (h5.set kx ⟨rdCells cb' ⟨x.cards ++ [⟨left, [], []⟩], x.line, x.col, x.odd⟩, 0⟩) ∧ (∀ j c, B j = some c → bufH B mb j = some c) ∧ ∀ j c, B j = some c → M j = none → bufH M mb j = none := by
  obtain ⟨q1, q2, q3⟩ := bufSwap hi.okc hi.okm
  obtain ⟨p1, p2, p3⟩ := bufPut (d := ⟨rdCells cb x, 0⟩) q2
  have hsub : Sub B (bufH B mb) := Sub.buf p2
  rw [p1] at o1 o3
  obtain ⟨r1, r2, r3⟩ := bufPut (d := ⟨rdCells cb' ⟨x.cards ++ [⟨left, [], []⟩], x.line, x.col, x.odd⟩, 0⟩) o1
  obtain ⟨s1, _, _⟩ := bufPut (d := ⟨rdCells cb x, 0⟩) o1
  have pM : bufOk M 3 mb := p2.sub hi.subM
  have hsubM : Sub M (bufH M mb) := Sub.buf pM
  have hMB : Sub (bufH M mb) (bufH B mb) := by
    cases mb with
    | none => exact hi.subM
    | some b => exact Sub.set_both hi.subM _ _
  refine ⟨⟨hi.sub.trans hsub, hMB, p3.trans hi.hk, ?_, trivial, .inr ?_⟩, ?_, fun j c hj => hsub _ _ hj, fun j c hj hM => ?_⟩
  · have := bufOkSet o1 (AHeap.set_same _ _ _) ⟨rdCells cb' ⟨x.cards ++ [⟨left, [], []⟩], x.line, x.col, x.odd⟩, 0⟩
    rwa [AHeap.set_set] at this
  · have hsome : ∃ kc, cb' = some ⟨kc, bufC cb ++ [.bool left, .str [], .nilSlice]⟩ := by
      cases cb' with
      | none => simp [bufC] at o2
      | some b => exact ⟨b.blk, by rw [← o2]; rfl⟩
    obtain ⟨kc', hcb'⟩ := hsome
    rcases hi.cards with ⟨c1, c2, c3⟩ | ⟨done, c, kc, c1, c2, c3, c4⟩
    · refine ⟨[], ⟨left, [], []⟩, kc', by rw [c1]; rfl, by rw [hcb', c2]; rfl, rfl, by simp⟩
    · refine ⟨done ++ [(c, bufV 3 mb)], ⟨left, [], []⟩, kc', by rw [c1]; simp, ?_, rfl, ?_⟩
      · rw [hcb', c2]
        simp [bufC, cell3, bufV]
      · intro p hp
        rw [List.mem_append] at hp
        rcases hp with hp | hp
        · exact (c4 p hp).mono hsubM
        · rw [List.mem_singleton.1 hp]
          exact IsL.buf pM (by decide) c3 (by intro y hy; obtain ⟨m, _, rfl⟩ := List.mem_map.1 hy; rfl) (Sub.refl _)
  · show Sub (bufH ((bufH B mb).set kx ⟨rdCells cb' ⟨x.cards ++ [⟨left, [], []⟩], x.line, x.col, x.odd⟩, 0⟩) cb') _
    rw [r1]
    rw [s1] at o3
    have := Sub.set_both o3 kx ⟨rdCells cb' ⟨x.cards ++ [⟨left, [], []⟩], x.line, x.col, x.odd⟩, 0⟩
    rwa [AHeap.set_set] at this
  · cases mb with
    | none => exact hM
    | some b =>
      have : j ≠ b.blk := fun e => by
        have := p2.1
        rw [← e, hj] at this
        cases this
      exact (AHeap.set_ne _ _ this).trans hM
end Go.Proofs.YtikpnhdjjabdmaaDoor

/-
  Contracts: the reader of the package columns: take, walked.
  Conditions: none.
-/
namespace Go.Proofs.YtikpnhdjjabdmaaDoor
open Go.AM
open Go.Proofs
open Go.Col
set_option maxRecDepth 100000

theorem take1 {x : Rd} {r : RowC} (h1 : r.more = false) (h2 : x.odd = true) : takeE x r = (x, ⟨4, x.line, x.col⟩) := by unfold takeE; rw [h1, h2]; rfl
theorem take2 {x : Rd} {r : RowC} (h1 : r.more = false) (h2 : x.odd = false) : takeE x r = (addE ⟨x.cards ++ [⟨decide (r.col < 12), [], []⟩], x.line, x.col, x.odd⟩ r.line r.col r.text, okF) := by unfold takeE; rw [h1, h2]; rfl
theorem take3 {x : Rd} {r : RowC} (h1 : r.more = true) (h2 : x.cards = []) : takeE x r = (x, ⟨6, r.line, 7⟩) := by unfold takeE; rw [h1, if_neg (by simp), if_neg (by simp), if_pos h2]
theorem take4 {x : Rd} {r : RowC} (h1 : r.more = true) (h2 : x.cards ≠ []) (h3 : r.col < 12 ∨ (x.odd = true ∧ r.text.getD 0 0 ≠ 34)) : takeE x r = (x, ⟨4, r.line, r.col⟩) := by unfold takeE; rw [h1, if_neg (by simp), if_neg (by simp), if_neg h2, if_pos h3]
theorem take5 {x : Rd} {r : RowC} (h1 : r.more = true) (h2 : x.cards ≠ []) (h3 : ¬ (r.col < 12 ∨ (x.odd = true ∧ r.text.getD 0 0 ≠ 34))) (h4 : x.odd = true) : takeE x r = (addE x r.line (r.col + 1) (r.text.drop 1), okF) := by unfold takeE; rw [h1, if_neg (by simp), if_neg (by simp), if_neg h2, if_neg h3, if_pos h4]
theorem take6 {x : Rd} {r : RowC} (h1 : r.more = true) (h2 : x.cards ≠ []) (h3 : ¬ (r.col < 12 ∨ (x.odd = true ∧ r.text.getD 0 0 ≠ 34))) (h4 : x.odd = false) : takeE x r = (addE x r.line r.col r.text, okF) := by unfold takeE; rw [h1, if_neg (by simp), if_neg (by simp), if_neg h2, if_neg h3, if_neg (by rw [h4]; decide)]
theorem c_take (w₀ : World) (h : AHeap) (kx : Nat) (B M : AHeap) (cb mb : Option Buf) (x : Rd) (hi : RdInv w₀ h kx B M cb mb x) (r : RowC) (hb : ∀ c ∈ x.cards, c.text.length ≤ 549755813887 ∧ c.marks.length ≤ 549755813887) (hn : x.cards.length ≤ 549755813887) (ht : r.text.length ≤ 80) (ht0 : r.text ≠ []) (hc0 : 0 ≤ r.col) (hc1 : r.col ≤ 80) :
    ACall Tryd.prog w₀ 32 [.ptr (.own kx) 0, rowA r] (rdH kx B cb mb x)
      (fun v h' => v = faultA (takeE x r).2 ∧ ∃ B' M' cb' mb', h' = rdH kx B' cb' mb' (takeE x r).1 ∧ RdInv w₀ h kx B' M' cb' mb' (takeE x r).1 ∧ Sub B B' ∧ ∀ j, B j ≠ none → M j = none → M' j = none) := by
  have hlvc := bufV_live 3 cb
  have hmany := hi.many
  have hlen := buf_len Tryd.prog Tryd.underlying30 3 cb
  rw [hmany] at hlen
  have htp : 0 < r.text.length := List.length_pos_iff.2 ht0
  refine acall_intro (n := 100) (rs := [.cell 4 34]) Tryd.func32 rfl rfl rfl rfl (Nat.le_of_ble_eq_true rfl) ?_
  simp only [initSlots]
  -- region 0  columns.go:102
  refine awp_rseq [0, 3, 4] (by rfl) fun K hK => ?_
  refine aOps_box (by rfl) (by rfl) (by rfl) fun k0q0 hk0q0 => ?_
  try have hf_0q0 : (rdH kx B cb mb x) k0q0 = none := by first | assumption | (simp only [AHeap.set_none] at hk0q0; simp only [hk0q0])
  skip
  refine aOps_alloc ze34 (cs := [.int .i64 0, .int .i64 0, .int .i64 0]) (by rfl) fun k0q1 hk0q1 => ?_
  have ne_0q1_0q0 : k0q1 ≠ k0q0 := by simp only [AHeap.set_none] at hk0q1; simp only [hk0q1, ne_eq, not_false_eq_true]
  try have hf_0q1 : (rdH kx B cb mb x) k0q1 = none := by first | assumption | (simp only [AHeap.set_none] at hk0q1; simp only [hk0q1])
  simp (decide := true) only [aOps_nil, ev, putD, Slots.put, Slots.get, Slots.keep, if_true, if_false, AVal.cells, Nat.zero_add, rowA]
  obtain ⟨a1, a2, a3, a4⟩ := rdH_new hi hk0q0 ⟨[.int .i64 r.line, .bool r.more, .str r.text, .int .i64 r.col], 0⟩
  have hk1' : rdH kx (B.set k0q0 ⟨[.int .i64 r.line, .bool r.more, .str r.text, .int .i64 r.col], 0⟩) cb mb x k0q1 = none := by rw [← a1]; exact hk0q1
  obtain ⟨b1, b2, b3, b4⟩ := rdH_new a2 hk1' ⟨[.int .i64 0, .int .i64 0, .int .i64 0], 0⟩
  have hheap : ((rdH kx B cb mb x).set k0q0 ⟨[.int .i64 r.line, .bool r.more, .str r.text, .int .i64 r.col], 0⟩).set k0q1 ⟨[.int .i64 0, .int .i64 0, .int .i64 0], 0⟩ = rdH kx ((B.set k0q0 ⟨[.int .i64 r.line, .bool r.more, .str r.text, .int .i64 r.col], 0⟩).set k0q1 ⟨[.int .i64 0, .int .i64 0, .int .i64 0], 0⟩) cb mb x := by rw [a1, b1]
  have hat : (((rdH kx B cb mb x).set k0q0 ⟨[.int .i64 r.line, .bool r.more, .str r.text, .int .i64 r.col], 0⟩).set k0q1 ⟨[.int .i64 0, .int .i64 0, .int .i64 0], 0⟩) kx = some ⟨rdCells cb x, 0⟩ := by rw [hheap]; exact b2.at
  have hrx := fun o => rd_own w₀ hat o
  apply hK; clear hK K
  refine awp_seq ?_
  refine awp_block ?_
  -- region 2  columns.go:104
  refine awp_rseq [0, 3, 4, 13] (by rfl) fun K hK => ?_
  simp (decide := true) only [aOps_nil, ev, absV, absS, putD, Slots.put, Slots.get, Slots.keep, if_true, if_false, true_and, ↓ap_fieldAddr, pop_fieldAddr, fa73_1, ↓ap_loadL, apL_mk, pLoad_one ag4, ↓ap_unOp, pop_unOp, pU_not, ↓ap_move, pop_move, ↓ag_move, agP, agQ_some, nthDst, gKnown_bool, guardB_bool_true, implies_true, ↓ag_nilCheck, pop_nilCheck, pNil_ptr, cv_nil, cp_nil, ↓ag_fieldAddr, fa71_2, cv_fieldAddr, cp_fieldAddr, ↓ag_loadL, agQL_some, agL_mk, agL_ld1, ↓ap_pick, pop_pick, pPick_bool, pickV_cond_l, pickV_and, ↓ap_assign, pop_assign, rd_ne', ne_eq, not_false_eq_true, ne_0q1_0q0.symm, rd_any, List.getD_cons_zero, List.getD_cons_succ, Nat.zero_add, lv_bool, hrx, rdCells]
  try simp (disch := omega) only [wrap_i64, wrap_u8]
  repeat (with_reducible refine And.intro ?_ ?_; · first | trivial | omega | (intro hg; simp only [Bool.and_eq_true, Bool.or_eq_true, Bool.not_eq_true', Bool.and_eq_false_iff, Bool.or_eq_false_iff, Bool.not_eq_false', decide_eq_true_eq, decide_eq_false_iff_not, eqNil] at hg; omega) )
  apply hK; clear hK K
  refine awp_cond (b := _) rfl (fun hb1 => ?_) (fun hb1 => ?_)
  · try simp only [Bool.not_eq_true', Bool.and_eq_true] at hb1
    -- region 3  columns.go:105
    refine awp_rseq [4] (by rfl) fun K hK => ?_
    simp (decide := true) only [ev, absV, absS, putD, Slots.put, Slots.get, if_true, if_false, true_and, ↓ap_move, pop_move, ↓ap_nilCheck, pop_nilCheck, pNil_ptr, ↓ap_fieldAddr, pop_fieldAddr, fa71_1, ↓ap_loadL, apL_mk, pLoad_agg ag32 sz32, ↓ap_build, ↓pop_buildL, bld34_0_1, evP, List.map_cons, List.map_nil, cellsAt, List.getD_cons_zero, List.getD_cons_succ, Nat.zero_add, Nat.reduceAdd, lv_int, allLive, Bool.and_true, hrx, rdCells]
    repeat (with_reducible refine And.intro ?_ ?_; · first | trivial | omega | (intro hg; simp only [Bool.and_eq_true, Bool.or_eq_true, Bool.not_eq_true', Bool.and_eq_false_iff, Bool.or_eq_false_iff, Bool.not_eq_false', decide_eq_true_eq, decide_eq_false_iff_not, eqNil] at hg; omega) )
    refine aOps_store (by rfl) (by rfl) (by repeat (first | exact AHeap.set_same _ _ _ | assumption | refine (AHeap.set_ne _ _ (by first | assumption | exact Ne.symm (by assumption))).trans ?_)) sz34 (by rfl) (by rfl) (by first | exact Nat.le_refl _ | decide | (simp; done) | (simp; omega)) (Nat.zero_le _) (by rfl) ?_
    simp only [AHeap.set_set, AVal.cells]
    simp (decide := true) only [aOps_nil, ev, putD, Slots.get, Slots.keep, if_true, if_false, setAt, List.set_cons_zero, List.set_cons_succ, Nat.zero_add, Nat.reduceAdd]
    repeat (with_reducible refine And.intro ?_ ?_; · first | trivial | omega | (intro hg; simp only [Bool.and_eq_true, Bool.or_eq_true, Bool.not_eq_true', Bool.and_eq_false_iff, Bool.or_eq_false_iff, Bool.not_eq_false', decide_eq_true_eq, decide_eq_false_iff_not, eqNil] at hg; omega) )
    apply hK; clear hK K
    refine awp_ret ?_
    try simp only [thenA_ret, inBlockA_ret]
    refine retA_ret (rdH kx B cb mb x) (by repeat (first | exact Sub.refl _ | assumption | refine Sub.trans_set ?_ (by assumption))) (?_) ?_
    · simp (decide := true) only [resPre, resV_cell, Slots.get, if_true, and_true, resV_cell, pLoad_agg ag34 sz34, rd_set, cellsAt, List.getD_cons_zero, List.getD_cons_succ, Nat.zero_add, Nat.reduceAdd, lv_int, allLive, Bool.and_true, cellsAt, List.getD_cons_zero, List.getD_cons_succ, Nat.zero_add, Nat.reduceAdd, lv_int, allLive, Bool.and_true]
    
    simp (decide := true) only [Slots.get, if_true, resOfG_one, resV_cell, pLoad_agg ag34 sz34, rd_set, cellsAt, List.getD_cons_zero, List.getD_cons_succ, Nat.zero_add, Nat.reduceAdd, lv_int, allLive, Bool.and_true, ne_eq, cellsAt, List.getD_cons_zero, List.getD_cons_succ, Nat.zero_add, Nat.reduceAdd, lv_int, allLive, Bool.and_true, faultA]
    rw [take1 hb1.1 hb1.2]
    exact ⟨rfl, B, M, cb, mb, rfl, hi, Sub.refl _, fun _ _ h => h⟩
  · try simp only [Bool.not_eq_false', Bool.and_eq_false_iff] at hb1
    -- region 4  columns.go:106
    refine awp_rseq [0, 3, 4, 28] (by rfl) fun K hK => ?_
    simp (decide := true) only [aOps_nil, ev, putD, Slots.put, Slots.get, Slots.keep, if_true, if_false, true_and, ↓ap_fieldAddr, pop_fieldAddr, fa73_1, ↓ap_loadL, apL_mk, pLoad_one ag4, ↓ap_unOp, pop_unOp, pU_not, ↓ap_assign, pop_assign, rd_ne', ne_eq, not_false_eq_true, ne_0q1_0q0.symm, rd_any, List.getD_cons_zero, List.getD_cons_succ, Nat.zero_add, lv_bool]
    try simp (disch := omega) only [wrap_i64, wrap_u8]
    repeat (with_reducible refine And.intro ?_ ?_; · first | trivial | omega | (intro hg; simp only [Bool.and_eq_true, Bool.or_eq_true, Bool.not_eq_true', Bool.and_eq_false_iff, Bool.or_eq_false_iff, Bool.not_eq_false', decide_eq_true_eq, decide_eq_false_iff_not, eqNil] at hg; omega) )
    apply hK; clear hK K
    refine awp_cond (b := _) rfl (fun hb2 => ?_) (fun hb2 => ?_)
    · try simp only [Bool.not_eq_true'] at hb2
      rw [hheap]
      obtain ⟨B₁, hB₁⟩ : ∃ B₁, B₁ = (B.set k0q0 ⟨[.int .i64 r.line, .bool r.more, .str r.text, .int .i64 r.col], 0⟩).set k0q1 ⟨[.int .i64 0, .int .i64 0, .int .i64 0], 0⟩ := ⟨_, rfl⟩
      rw [← hB₁] at b2 ⊢
      have e0 : B₁ k0q0 = some ⟨[.int .i64 r.line, .bool r.more, .str r.text, .int .i64 r.col], 0⟩ := by rw [hB₁, AHeap.set_ne _ _ ne_0q1_0q0.symm, AHeap.set_same]
      have e1 : B₁ k0q1 = some ⟨[.int .i64 0, .int .i64 0, .int .i64 0], 0⟩ := by rw [hB₁, AHeap.set_same]
      have s0 := fun o => rd_own w₀ (b2.other e0) o
      have sx := fun o => rd_own w₀ b2.at o
      obtain ⟨q1, q2, q3⟩ := bufSwap b2.okc b2.okm
      obtain ⟨zs, z1, z2, z3⟩ := b2.chunks
      -- region 5  columns.go:107
      refine awp_dseq_F 10 [0] [0, 3, 4] mixed (by kernel_rfl) (by rfl) fun K hK => ?_
      simp only [List.take_succ_cons, List.take_zero, List.drop_succ_cons, List.drop_zero]
      simp (decide := true) only [ev, absV, absS, putD, Slots.put, Slots.get, if_true, if_false, true_and, ↓fp_move, pop_move, ↓fp_nilCheck, pop_nilCheck, pNil_ptr, ↓fp_fieldAddr, pop_fieldAddr, fa71_0, ↓fp_load, pop_load, pLoad_one ag30, fa73_3, pLoad_one ag3, ↓fp_binOp, pop_binOp, isNilC_int, cond_false, pBinX_int, pI_lss, ↓fp_build, ↓pop_buildL, bld39_0, evP, List.map_cons, List.map_nil, List.getD_cons_zero, List.getD_cons_succ, Nat.zero_add, lv_int, rdCells, hlvc, s0, sx]
      repeat (with_reducible refine And.intro ?_ ?_; · first | trivial | omega | (intro hg; simp only [Bool.and_eq_true, Bool.or_eq_true, Bool.not_eq_true', Bool.and_eq_false_iff, Bool.or_eq_false_iff, Bool.not_eq_false', decide_eq_true_eq, decide_eq_false_iff_not, eqNil] at hg; omega) )
      refine fOps_lay (by rfl) ?_
      refine aOps_buildSlice (cs := [.bool (decide (r.col < 12)), .str [], .nilSlice]) (by kernel_rfl) fun k5q9 hk5q9 => ?_
      try have hf_5q9 : (rdH kx B cb mb x) k5q9 = none := by first | assumption | (simp only [AHeap.set_none] at hk5q9; simp only [hk5q9])
      rw [aOps_nil]
      repeat (with_reducible refine And.intro ?_ ?_; · first | trivial | omega | (intro hg; simp only [Bool.and_eq_true, Bool.or_eq_true, Bool.not_eq_true', Bool.and_eq_false_iff, Bool.or_eq_false_iff, Bool.not_eq_false', decide_eq_true_eq, decide_eq_false_iff_not, eqNil] at hg; omega) )
      try simp only [fOps_nil]
      refine aOps_appendL (es := 3) (zs := zs) (xs := [[.bool (decide (r.col < 12)), .str [], .nilSlice]]) (h₀ := bufH (B₁.set kx ⟨rdCells cb x, 0⟩) mb) (b := cb) (by rfl) (by rfl) Tryd.underlying30 Tryd.underlying30 (fun k e => by cases e) sz39 by39 ze39 (by rfl) (by decide) (by rfl) q3 z1 z2 (by rw [← q1]; exact Sub.set hk5q9) (by rfl) (IsL.own (AHeap.set_same _ _ _) (by simp) (by rfl) (by rfl) (.exact 1) (Nat.le_refl _)) (by rfl) (by simp; omega) (by simp; omega) fun cb' h5 o1 o2 o3 => ?_
      have hlv' := bufV_live 3 cb'
      simp (decide := true) only [ev, putD, Slots.put, Slots.get, if_true, if_false, true_and, ↓ap_nilCheck, pop_nilCheck, pNil_ptr, ↓ap_fieldAddr, pop_fieldAddr, fa71_0, Nat.zero_add]
      repeat (with_reducible refine And.intro ?_ ?_; · first | trivial | omega | (intro hg; simp only [Bool.and_eq_true, Bool.or_eq_true, Bool.not_eq_true', Bool.and_eq_false_iff, Bool.or_eq_false_iff, Bool.not_eq_false', decide_eq_true_eq, decide_eq_false_iff_not, eqNil] at hg; omega) )
      refine aOps_store (v := bufV 3 cb') (by rfl) (by rfl) (o3 _ _ (bufAt o1 (bufAt q2 (AHeap.set_same _ _ _)))) sz30 hlv' (by cases cb' <;> rfl) (by cases cb' <;> simp [rdCells, bufV]) (Nat.zero_le _) (by cases cb' <;> rfl) ?_
      rw [show (bufV 3 cb').cells = [bufV 3 cb'] by cases cb' <;> rfl]
      simp only [setAt, rdCells, List.set_cons_zero]
      simp (decide := true) only [aOps_nil, putD, Slots.keep, if_true, if_false]
      repeat (with_reducible refine And.intro ?_ ?_; · first | trivial | omega | (intro hg; simp only [Bool.and_eq_true, Bool.or_eq_true, Bool.not_eq_true', Bool.and_eq_false_iff, Bool.or_eq_false_iff, Bool.not_eq_false', decide_eq_true_eq, decide_eq_false_iff_not, eqNil] at hg; omega) )
      apply hK; clear hK K
      obtain ⟨i1, u1, u2, u3⟩ := b2.push (decide (r.col < 12)) o1 (by rw [o2, List.flatten_append, ← z1]; rfl) o3
      refine Awp.forget (h' := rdH kx (bufH B₁ mb) cb' none ⟨x.cards ++ [⟨decide (r.col < 12), [], []⟩], x.line, x.col, x.odd⟩) u1 ?_
      have t0 := fun o => rd_own w₀ (i1.other (u2 _ _ e0)) o
      have hb' : ∀ c ∈ x.cards ++ [⟨decide (r.col < 12), [], []⟩], c.text.length ≤ 549755813888 ∧ c.marks.length ≤ 549755813888 := by
        intro c hc
        rw [List.mem_append] at hc
        rcases hc with hc | hc
        · have := hb c hc
          omega
        · rw [List.mem_singleton.1 hc]
          exact ⟨by simp, by simp⟩
      -- region 6  columns.go:108
      refine awp_r [4] (by rfl) ?_
      simp (decide := true) only [ev, putD, Slots.put, Slots.get, if_true, if_false, true_and, ↓ap_move, pop_move, ↓ap_fieldAddr, pop_fieldAddr, fa73_0, ↓ap_loadL, apL_mk, pLoad_one ag3, fa73_3, fa73_2, pLoad_one ag9, ne_eq, List.getD_cons_zero, List.getD_cons_succ, Nat.zero_add, lv_int, lv_str, faultA, t0]
      repeat (with_reducible refine And.intro ?_ ?_; · first | trivial | omega | (intro hg; simp only [Bool.and_eq_true, Bool.or_eq_true, Bool.not_eq_true', Bool.and_eq_false_iff, Bool.or_eq_false_iff, Bool.not_eq_false', decide_eq_true_eq, decide_eq_false_iff_not, eqNil] at hg; omega) )
      refine aOps_call (by rfl) (by rfl) (c_addR w₀ h kx _ _ cb' none _ i1 (by simp) r.line r.col r.text hb' (by simp; omega) ht) fun x6q7 h6q7 hx6q7 => ?_
      obtain ⟨-, cb2, mb2, rfl, i2⟩ := hx6q7
      have hz := i2.other (u2 _ _ e1)
      have hsB : Sub B (bufH B₁ mb) := fun j c hj => u2 _ _ (by rw [hB₁]; exact Sub.trans_set (Sub.trans_set (Sub.refl _) a4) (by rwa [AHeap.set_ne _ _ ne_0q1_0q0] at b4) j c hj)
      have hsM : ∀ j, B j ≠ none → M j = none → bufH M mb j = none := fun j hj hM => by
        cases hjc : B j with
        | none => exact absurd hjc hj
        | some c => exact u3 j c (by rw [hB₁]; exact Sub.trans_set (Sub.trans_set (Sub.refl _) a4) (by rwa [AHeap.set_ne _ _ ne_0q1_0q0] at b4) j c hjc) hM
      have hfin := take2 (x := x) (r := r) (by simpa using hb2) (by simpa [hb2] using hb1)
      simp (decide := true) only [aOps_nil, putD, Slots.put, Slots.keep, if_true, if_false]
      repeat (with_reducible refine And.intro ?_ ?_; · first | trivial | omega | (intro hg; simp only [Bool.and_eq_true, Bool.or_eq_true, Bool.not_eq_true', Bool.and_eq_false_iff, Bool.or_eq_false_iff, Bool.not_eq_false', decide_eq_true_eq, decide_eq_false_iff_not, eqNil] at hg; omega) )
      change Awp _ _ _ _ _ _ _
      -- region 13  columns.go:118
      refine awp_rseq [4] (by rfl) fun K hK => ?_
      simp (decide := true) only [ev, absV, absS, putD, Slots.put, Slots.get, if_false, true_and, ↓ap_build, ↓pop_buildL, bld34_, evP, List.map_nil]
      repeat (with_reducible refine And.intro ?_ ?_; · first | trivial | omega | (intro hg; simp only [Bool.and_eq_true, Bool.or_eq_true, Bool.not_eq_true', Bool.and_eq_false_iff, Bool.or_eq_false_iff, Bool.not_eq_false', decide_eq_true_eq, decide_eq_false_iff_not, eqNil] at hg; omega) )
      refine aOps_store (v := .agg [.int .i64 0, .int .i64 0, .int .i64 0]) (by rfl) (by rfl) hz sz34 (by rfl) (by rfl) (by simp []) (Nat.zero_le _) (by rfl) ?_
      simp only [setAt, AVal.cells, List.set_cons_zero, List.set_cons_succ, Nat.zero_add, Nat.reduceAdd]
      rw [set_same_self hz]
      simp (decide := true) only [aOps_nil, putD, Slots.keep, if_true, if_false]
      repeat (with_reducible refine And.intro ?_ ?_; · first | trivial | omega | (intro hg; simp only [Bool.and_eq_true, Bool.or_eq_true, Bool.not_eq_true', Bool.and_eq_false_iff, Bool.or_eq_false_iff, Bool.not_eq_false', decide_eq_true_eq, decide_eq_false_iff_not, eqNil] at hg; omega) )
      apply hK; clear hK K
      refine awp_ret ?_
      try simp only [thenA_ret, inBlockA_ret]
      refine retA_retE (?_) ?_
      · simp (decide := true) only [resPre, resV_cell, Slots.get, if_true, and_true, resV_cell, pLoad_agg ag34 sz34, cellsAt, List.getD_cons_zero, List.getD_cons_succ, Nat.zero_add, Nat.reduceAdd, lv_int, allLive, Bool.and_true, cellsAt, List.getD_cons_zero, List.getD_cons_succ, Nat.zero_add, Nat.reduceAdd, lv_int, allLive, Bool.and_true, rd_own w₀ hz]
      
      simp (decide := true) only [Slots.get, if_true, resOfG_one, resV_cell, pLoad_agg ag34 sz34, cellsAt, List.getD_cons_zero, List.getD_cons_succ, Nat.zero_add, Nat.reduceAdd, lv_int, allLive, Bool.and_true, cellsAt, List.getD_cons_zero, List.getD_cons_succ, Nat.zero_add, Nat.reduceAdd, lv_int, allLive, Bool.and_true, rd_own w₀ hz]
      refine ⟨_, Sub.refl _, ?_⟩
      rw [hfin]
      exact ⟨rfl, _, _, _, _, rfl, i2, hsB, hsM⟩
    · try simp only [Bool.not_eq_false'] at hb2
      -- region 7  columns.go:109
      refine awp_rseq [0, 3, 4, 53] (by rfl) fun K hK => ?_
      simp (decide := true) only [aOps_nil, ev, absV, absS, putD, Slots.put, Slots.get, Slots.keep, if_true, if_false, true_and, ↓ap_move, pop_move, ↓ap_nilCheck, pop_nilCheck, pNil_ptr, ↓ap_fieldAddr, pop_fieldAddr, fa71_0, ↓ap_loadL, apL_mk, pLoad_one ag30, ↓ap_len, pop_len, ↓ap_binOp, pop_binOp, isNilC_int, cond_false, pBinX_int, pI_eql, ↓ap_assign, pop_assign, List.getD_cons_zero, Nat.zero_add, hrx, rdCells, hlvc, hlen]
      repeat (with_reducible refine And.intro ?_ ?_; · first | trivial | omega | (intro hg; simp only [Bool.and_eq_true, Bool.or_eq_true, Bool.not_eq_true', Bool.and_eq_false_iff, Bool.or_eq_false_iff, Bool.not_eq_false', decide_eq_true_eq, decide_eq_false_iff_not, eqNil] at hg; omega) )
      apply hK; clear hK K
      refine awp_cond (b := _) rfl (fun hb3 => ?_) (fun hb3 => ?_)
      · try simp only [decide_eq_true_eq] at hb3
        -- region 8  columns.go:110
        refine awp_rseq [4] (by rfl) fun K hK => ?_
        simp (decide := true) only [ev, putD, Slots.put, Slots.get, if_true, if_false, true_and, ↓ap_fieldAddr, pop_fieldAddr, fa73_0, ↓ap_loadL, apL_mk, pLoad_one ag3, rd_ne', ne_eq, not_false_eq_true, ne_0q1_0q0.symm, rd_any, List.getD_cons_zero, Nat.zero_add, lv_int]
        repeat (with_reducible refine And.intro ?_ ?_; · first | trivial | omega | (intro hg; simp only [Bool.and_eq_true, Bool.or_eq_true, Bool.not_eq_true', Bool.and_eq_false_iff, Bool.or_eq_false_iff, Bool.not_eq_false', decide_eq_true_eq, decide_eq_false_iff_not, eqNil] at hg; omega) )
        refine aOps_callV (V := faultA ⟨6, r.line, 7⟩) (by rfl) (by rfl) (c_fault w₀ _ 6 r.line 7) ?_
        refine aOps_store (by rfl) (by rfl) (by repeat (first | exact AHeap.set_same _ _ _ | assumption | refine (AHeap.set_ne _ _ (by first | assumption | exact Ne.symm (by assumption))).trans ?_)) sz34 (by rfl) (by rfl) (by first | exact Nat.le_refl _ | decide | (simp; done) | (simp; omega)) (Nat.zero_le _) (by rfl) ?_
        simp only [AHeap.set_set, AVal.cells]
        simp (decide := true) only [aOps_nil, ev, putD, Slots.put, Slots.get, Slots.keep, if_true, if_false, setAt, List.set_cons_zero, List.set_cons_succ, Nat.zero_add, Nat.reduceAdd, faultA]
        repeat (with_reducible refine And.intro ?_ ?_; · first | trivial | omega | (intro hg; simp only [Bool.and_eq_true, Bool.or_eq_true, Bool.not_eq_true', Bool.and_eq_false_iff, Bool.or_eq_false_iff, Bool.not_eq_false', decide_eq_true_eq, decide_eq_false_iff_not, eqNil] at hg; omega) )
        apply hK; clear hK K
        refine awp_ret ?_
        try simp only [thenA_ret, inBlockA_ret]
        refine retA_ret (rdH kx B cb mb x) (by repeat (first | exact Sub.refl _ | assumption | refine Sub.trans_set ?_ (by assumption))) (?_) ?_
        · simp (decide := true) only [resPre, resV_cell, Slots.get, if_true, and_true, resV_cell, pLoad_agg ag34 sz34, rd_set, cellsAt, List.getD_cons_zero, List.getD_cons_succ, Nat.zero_add, Nat.reduceAdd, lv_int, allLive, Bool.and_true, cellsAt, List.getD_cons_zero, List.getD_cons_succ, Nat.zero_add, Nat.reduceAdd, lv_int, allLive, Bool.and_true]
        
        simp (decide := true) only [Slots.get, if_true, resOfG_one, resV_cell, pLoad_agg ag34 sz34, rd_set, cellsAt, List.getD_cons_zero, List.getD_cons_succ, Nat.zero_add, Nat.reduceAdd, lv_int, allLive, Bool.and_true, ne_eq, cellsAt, List.getD_cons_zero, List.getD_cons_succ, Nat.zero_add, Nat.reduceAdd, lv_int, allLive, Bool.and_true, faultA]
        rw [take3 (by simpa using hb2) (List.eq_nil_of_length_eq_zero (by omega))]
        exact ⟨rfl, B, M, cb, mb, rfl, hi, Sub.refl _, fun _ _ h => h⟩
      · try simp only [decide_eq_false_iff_not] at hb3
        have hm : r.more = true := by simpa using hb2
        have hne : x.cards ≠ [] := fun e => hb3 (by rw [e]; rfl)
        -- region 9  columns.go:111
        refine awp_rseq [0, 3, 4, 63] (by rfl) fun K hK => ?_
        simp (decide := true) only [aOps_nil, ev, absV, absS, putD, Slots.put, Slots.get, Slots.keep, if_true, if_false, true_and, ↓ap_fieldAddr, pop_fieldAddr, fa73_3, ↓ap_loadL, apL_mk, pLoad_one ag3, ↓ap_binOp, pop_binOp, isNilC_int, cond_false, pBinX_int, pI_lss, ↓ap_move, pop_move, ↓ag_move, agP, agQ_some, nthDst, gKnown_bool, gKnown_cond, guardB_cond, guardB_bool_true, guardB_bool_false, cv_cv, implies_true, ↓ag_nilCheck, pop_nilCheck, pNil_ptr, cv_nil, cp_nil, ↓ag_fieldAddr, fa71_2, cv_fieldAddr, cp_fieldAddr, ↓ag_loadL, agQL_some, agL_mk, agL_ld2, agL_ld3, pLoad_one ag4, fa73_2, pLoad_one ag9, ↓ag_index, pop_index, pIndex_str Tryd.underlying9, cv_indexl, cp_indexl, ↓ag_binOp, cv_binl, cp_binl, pI_neq, ↓ag_pick, pop_pick, pPick_bool, pickV_cond_r, cp_nest1, pickV_and, pickV_or, cv_pick, cp_pick, ↓ap_pick, ↓ap_assign, pop_assign, rd_ne', ne_eq, not_false_eq_true, ne_0q1_0q0.symm, rd_any, List.getD_cons_zero, List.getD_cons_succ, Nat.zero_add, lv_bool, lv_int, lv_str, hrx, rdCells, Int.toNat_zero]
        repeat (with_reducible refine And.intro ?_ ?_; · first | trivial | omega | (intro hg; simp only [Bool.and_eq_true, Bool.or_eq_true, Bool.not_eq_true', Bool.and_eq_false_iff, Bool.or_eq_false_iff, Bool.not_eq_false', decide_eq_true_eq, decide_eq_false_iff_not, eqNil] at hg; omega) )
        apply hK; clear hK K
        refine awp_cond (b := _) rfl (fun hb4 => ?_) (fun hb4 => ?_)
        · try simp only [decide_eq_true_eq, decide_eq_false_iff_not, Bool.not_eq_true', Bool.and_eq_true, Bool.or_eq_true] at hb4
          -- region 10  columns.go:112
          refine awp_rseq [4] (by rfl) fun K hK => ?_
          simp (decide := true) only [ev, putD, Slots.put, Slots.get, if_true, if_false, true_and, ↓ap_fieldAddr, pop_fieldAddr, fa73_0, ↓ap_loadL, apL_mk, pLoad_one ag3, fa73_3, rd_ne', ne_eq, not_false_eq_true, ne_0q1_0q0.symm, rd_any, List.getD_cons_zero, List.getD_cons_succ, Nat.zero_add, lv_int]
          repeat (with_reducible refine And.intro ?_ ?_; · first | trivial | omega | (intro hg; simp only [Bool.and_eq_true, Bool.or_eq_true, Bool.not_eq_true', Bool.and_eq_false_iff, Bool.or_eq_false_iff, Bool.not_eq_false', decide_eq_true_eq, decide_eq_false_iff_not, eqNil] at hg; omega) )
          refine aOps_callV (V := faultA ⟨4, r.line, r.col⟩) (by rfl) (by rfl) (c_fault w₀ _ 4 r.line r.col) ?_
          refine aOps_store (by rfl) (by rfl) (by repeat (first | exact AHeap.set_same _ _ _ | assumption | refine (AHeap.set_ne _ _ (by first | assumption | exact Ne.symm (by assumption))).trans ?_)) sz34 (by rfl) (by rfl) (by first | exact Nat.le_refl _ | decide | (simp; done) | (simp; omega)) (Nat.zero_le _) (by rfl) ?_
          simp only [AHeap.set_set, AVal.cells]
          simp (decide := true) only [aOps_nil, ev, putD, Slots.put, Slots.get, Slots.keep, if_true, if_false, setAt, List.set_cons_zero, List.set_cons_succ, Nat.zero_add, Nat.reduceAdd, faultA]
          repeat (with_reducible refine And.intro ?_ ?_; · first | trivial | omega | (intro hg; simp only [Bool.and_eq_true, Bool.or_eq_true, Bool.not_eq_true', Bool.and_eq_false_iff, Bool.or_eq_false_iff, Bool.not_eq_false', decide_eq_true_eq, decide_eq_false_iff_not, eqNil] at hg; omega) )
          apply hK; clear hK K
          refine awp_ret ?_
          try simp only [thenA_ret, inBlockA_ret]
          refine retA_ret (rdH kx B cb mb x) (by repeat (first | exact Sub.refl _ | assumption | refine Sub.trans_set ?_ (by assumption))) (?_) ?_
          · simp (decide := true) only [resPre, resV_cell, Slots.get, if_true, and_true, resV_cell, pLoad_agg ag34 sz34, rd_set, cellsAt, List.getD_cons_zero, List.getD_cons_succ, Nat.zero_add, Nat.reduceAdd, lv_int, allLive, Bool.and_true, cellsAt, List.getD_cons_zero, List.getD_cons_succ, Nat.zero_add, Nat.reduceAdd, lv_int, allLive, Bool.and_true]
          
          simp (decide := true) only [Slots.get, if_true, resOfG_one, resV_cell, pLoad_agg ag34 sz34, rd_set, cellsAt, List.getD_cons_zero, List.getD_cons_succ, Nat.zero_add, Nat.reduceAdd, lv_int, allLive, Bool.and_true, ne_eq, cellsAt, List.getD_cons_zero, List.getD_cons_succ, Nat.zero_add, Nat.reduceAdd, lv_int, allLive, Bool.and_true, faultA]
          rw [take4 hm hne (hb4.imp id (fun e => ⟨e.1, fun q => e.2 (by rw [q]; rfl)⟩))]
          exact ⟨rfl, B, M, cb, mb, rfl, hi, Sub.refl _, fun _ _ h => h⟩
        · try simp only [decide_eq_true_eq, decide_eq_false_iff_not, Bool.not_eq_false', Bool.and_eq_false_iff, Bool.or_eq_false_iff] at hb4
          have hnq : ¬ (r.col < 12 ∨ (x.odd = true ∧ r.text.getD 0 0 ≠ 34)) := by
            rintro (e | ⟨e1, e2⟩)
            · exact hb4.1 e
            · rcases hb4.2 with e | e
              · rw [e1] at e; cases e
              · exact e2 ((u8_eq _ 34).mp e)
          -- region 11  columns.go:113
          refine awp_rseq [0, 3, 4, 84] (by rfl) fun K hK => ?_
          simp (decide := true) only [aOps_nil, ev, putD, Slots.put, Slots.get, Slots.keep, if_true, if_false, true_and, ↓ap_move, pop_move, ↓ap_nilCheck, pop_nilCheck, pNil_ptr, ↓ap_fieldAddr, pop_fieldAddr, fa71_2, ↓ap_loadL, apL_mk, pLoad_one ag4, ↓ap_assign, pop_assign, List.getD_cons_zero, List.getD_cons_succ, Nat.zero_add, lv_bool, hrx, rdCells]
          repeat (with_reducible refine And.intro ?_ ?_; · first | trivial | omega | (intro hg; simp only [Bool.and_eq_true, Bool.or_eq_true, Bool.not_eq_true', Bool.and_eq_false_iff, Bool.or_eq_false_iff, Bool.not_eq_false', decide_eq_true_eq, decide_eq_false_iff_not, eqNil] at hg; omega) )
          apply hK; clear hK K
          refine awp_cond (b := _) rfl (fun hb5 => ?_) (fun hb5 => ?_)
          · try simp only [decide_eq_true_eq, decide_eq_false_iff_not, Bool.not_eq_true', Bool.not_eq_false', Bool.and_eq_true, Bool.and_eq_false_iff, Bool.or_eq_true, Bool.or_eq_false_iff, Bool.true_eq, Bool.false_eq, reduceCtorEq] at hb5
            rw [hheap]
            obtain ⟨B₁, hB₁⟩ : ∃ B₁, B₁ = (B.set k0q0 ⟨[.int .i64 r.line, .bool r.more, .str r.text, .int .i64 r.col], 0⟩).set k0q1 ⟨[.int .i64 0, .int .i64 0, .int .i64 0], 0⟩ := ⟨_, rfl⟩
            rw [← hB₁] at b2 ⊢
            have e0 : B₁ k0q0 = some ⟨[.int .i64 r.line, .bool r.more, .str r.text, .int .i64 r.col], 0⟩ := by rw [hB₁, AHeap.set_ne _ _ ne_0q1_0q0.symm, AHeap.set_same]
            have e1 : B₁ k0q1 = some ⟨[.int .i64 0, .int .i64 0, .int .i64 0], 0⟩ := by rw [hB₁, AHeap.set_same]
            have s0 := fun o => rd_own w₀ (b2.other e0) o
            have sx := fun o => rd_own w₀ b2.at o
            have hcut : (r.text.drop (1 : Int).toNat).take ((r.text.length : Int).toNat - (1 : Int).toNat) = r.text.drop 1 := by
              rw [Int.toNat_natCast, show Int.toNat 1 = 1 from rfl, List.take_of_length_le (by simp)]
            -- region 12  columns.go:114
            refine awp_draw_tail 9 mixed (by kernel_rfl) (by rfl) (by rfl) ?_
            simp (decide := true) only [ev, absV, absS, putD, Slots.put, Slots.get, if_true, if_false, true_and, ↓ap_move, pop_move, ↓ap_fieldAddr, pop_fieldAddr, fa73_0, ↓ap_loadL, apL_mk, pLoad_one ag3, fa73_3, ↓ap_binOp, pop_binOp, isNilC_int, cond_false, pBinX_int, pI_add, fa73_2, pLoad_one ag9, ne_eq, List.getD_cons_zero, List.getD_cons_succ, Nat.zero_add, lv_int, lv_str, faultA, s0]
            try simp (disch := omega) only [wrap_i64]
            try simp (decide := true) only [ev, absV, absS, putD, Slots.put, Slots.get, if_true, if_false, true_and, ↓ap_slice, pop_slice, evO, pSliceS_i0 Tryd.underlying9, pSliceS, bndA_none, bndA_int, hcut]
            repeat (with_reducible refine And.intro ?_ ?_; · first | trivial | omega | (intro hg; simp only [Bool.and_eq_true, Bool.or_eq_true, Bool.not_eq_true', Bool.and_eq_false_iff, Bool.or_eq_false_iff, Bool.not_eq_false', decide_eq_true_eq, decide_eq_false_iff_not, eqNil] at hg; omega) )
            refine aOps_call (by rfl) (by rfl) (c_addR w₀ h kx _ _ cb mb _ b2 hne r.line (r.col + 1) (r.text.drop 1) (by intro c hc; have := hb c hc; omega) (by omega) (by simp; omega)) fun x12q9 h12q9 hx12q9 => ?_
            obtain ⟨-, cb2, mb2, rfl, i2⟩ := hx12q9
            have hz := i2.other e1
            have hsB : Sub B B₁ := fun j c hj => by rw [hB₁]; exact Sub.trans_set (Sub.trans_set (Sub.refl _) a4) (by rwa [AHeap.set_ne _ _ ne_0q1_0q0] at b4) j c hj
            have hsM : ∀ j, B j ≠ none → M j = none → M j = none := fun _ _ h => h
            have hfin := take5 (x := x) (r := r) hm hne hnq hb5
            simp (decide := true) only [aOps_nil, putD, Slots.put, if_false]
            repeat (with_reducible refine And.intro ?_ ?_; · first | trivial | omega | (intro hg; simp only [Bool.and_eq_true, Bool.or_eq_true, Bool.not_eq_true', Bool.and_eq_false_iff, Bool.or_eq_false_iff, Bool.not_eq_false', decide_eq_true_eq, decide_eq_false_iff_not, eqNil] at hg; omega) )
            change Awp _ _ _ _ _ _ _
            -- region 13  columns.go:118
            refine awp_rseq [4] (by rfl) fun K hK => ?_
            simp (decide := true) only [ev, absV, absS, putD, Slots.put, Slots.get, if_false, true_and, ↓ap_build, ↓pop_buildL, bld34_, evP, List.map_nil]
            repeat (with_reducible refine And.intro ?_ ?_; · first | trivial | omega | (intro hg; simp only [Bool.and_eq_true, Bool.or_eq_true, Bool.not_eq_true', Bool.and_eq_false_iff, Bool.or_eq_false_iff, Bool.not_eq_false', decide_eq_true_eq, decide_eq_false_iff_not, eqNil] at hg; omega) )
            refine aOps_store (v := .agg [.int .i64 0, .int .i64 0, .int .i64 0]) (by rfl) (by rfl) hz sz34 (by rfl) (by rfl) (by simp []) (Nat.zero_le _) (by rfl) ?_
            simp only [setAt, AVal.cells, List.set_cons_zero, List.set_cons_succ, Nat.zero_add, Nat.reduceAdd]
            rw [set_same_self hz]
            simp (decide := true) only [aOps_nil, putD, Slots.keep, if_true, if_false]
            repeat (with_reducible refine And.intro ?_ ?_; · first | trivial | omega | (intro hg; simp only [Bool.and_eq_true, Bool.or_eq_true, Bool.not_eq_true', Bool.and_eq_false_iff, Bool.or_eq_false_iff, Bool.not_eq_false', decide_eq_true_eq, decide_eq_false_iff_not, eqNil] at hg; omega) )
            apply hK; clear hK K
            refine awp_ret ?_
            try simp only [thenA_ret, inBlockA_ret]
            refine retA_retE (?_) ?_
            · simp (decide := true) only [resPre, resV_cell, Slots.get, if_true, and_true, resV_cell, pLoad_agg ag34 sz34, cellsAt, List.getD_cons_zero, List.getD_cons_succ, Nat.zero_add, Nat.reduceAdd, lv_int, allLive, Bool.and_true, cellsAt, List.getD_cons_zero, List.getD_cons_succ, Nat.zero_add, Nat.reduceAdd, lv_int, allLive, Bool.and_true, rd_own w₀ hz]
            
            simp (decide := true) only [Slots.get, if_true, resOfG_one, resV_cell, pLoad_agg ag34 sz34, cellsAt, List.getD_cons_zero, List.getD_cons_succ, Nat.zero_add, Nat.reduceAdd, lv_int, allLive, Bool.and_true, cellsAt, List.getD_cons_zero, List.getD_cons_succ, Nat.zero_add, Nat.reduceAdd, lv_int, allLive, Bool.and_true, rd_own w₀ hz]
            refine ⟨_, Sub.refl _, ?_⟩
            rw [hfin]
            exact ⟨rfl, _, _, _, _, rfl, i2, hsB, hsM⟩
          · try simp only [decide_eq_true_eq, decide_eq_false_iff_not, Bool.not_eq_true', Bool.not_eq_false', Bool.and_eq_true, Bool.and_eq_false_iff, Bool.or_eq_true, Bool.or_eq_false_iff, Bool.true_eq, Bool.false_eq, reduceCtorEq] at hb5
            rw [hheap]
            obtain ⟨B₁, hB₁⟩ : ∃ B₁, B₁ = (B.set k0q0 ⟨[.int .i64 r.line, .bool r.more, .str r.text, .int .i64 r.col], 0⟩).set k0q1 ⟨[.int .i64 0, .int .i64 0, .int .i64 0], 0⟩ := ⟨_, rfl⟩
            rw [← hB₁] at b2 ⊢
            have e0 : B₁ k0q0 = some ⟨[.int .i64 r.line, .bool r.more, .str r.text, .int .i64 r.col], 0⟩ := by rw [hB₁, AHeap.set_ne _ _ ne_0q1_0q0.symm, AHeap.set_same]
            have e1 : B₁ k0q1 = some ⟨[.int .i64 0, .int .i64 0, .int .i64 0], 0⟩ := by rw [hB₁, AHeap.set_same]
            have s0 := fun o => rd_own w₀ (b2.other e0) o
            have sx := fun o => rd_own w₀ b2.at o
            -- region 1  columns.go:116
            refine awp_r [4] (by rfl) ?_
            simp (decide := true) only [ev, putD, Slots.put, Slots.get, if_true, if_false, true_and, ↓ap_move, pop_move, ↓ap_fieldAddr, pop_fieldAddr, fa73_0, ↓ap_loadL, apL_mk, pLoad_one ag3, fa73_3, fa73_2, pLoad_one ag9, ne_eq, List.getD_cons_zero, List.getD_cons_succ, Nat.zero_add, lv_int, lv_str, faultA, s0]
            repeat (with_reducible refine And.intro ?_ ?_; · first | trivial | omega | (intro hg; simp only [Bool.and_eq_true, Bool.or_eq_true, Bool.not_eq_true', Bool.and_eq_false_iff, Bool.or_eq_false_iff, Bool.not_eq_false', decide_eq_true_eq, decide_eq_false_iff_not, eqNil] at hg; omega) )
            refine aOps_call (by rfl) (by rfl) (c_addR w₀ h kx _ _ cb mb _ b2 hne r.line r.col r.text (by intro c hc; have := hb c hc; omega) (by omega) ht) fun x1q7 h1q7 hx1q7 => ?_
            obtain ⟨-, cb2, mb2, rfl, i2⟩ := hx1q7
            have hz := i2.other e1
            have hsB : Sub B B₁ := fun j c hj => by rw [hB₁]; exact Sub.trans_set (Sub.trans_set (Sub.refl _) a4) (by rwa [AHeap.set_ne _ _ ne_0q1_0q0] at b4) j c hj
            have hsM : ∀ j, B j ≠ none → M j = none → M j = none := fun _ _ h => h
            have hfin := take6 (x := x) (r := r) hm hne hnq hb5
            simp (decide := true) only [aOps_nil, putD, Slots.put, Slots.keep, if_true, if_false]
            repeat (with_reducible refine And.intro ?_ ?_; · first | trivial | omega | (intro hg; simp only [Bool.and_eq_true, Bool.or_eq_true, Bool.not_eq_true', Bool.and_eq_false_iff, Bool.or_eq_false_iff, Bool.not_eq_false', decide_eq_true_eq, decide_eq_false_iff_not, eqNil] at hg; omega) )
            change Awp _ _ _ _ _ _ _
            -- region 13  columns.go:118
            refine awp_rseq [4] (by rfl) fun K hK => ?_
            simp (decide := true) only [ev, absV, absS, putD, Slots.put, Slots.get, if_false, true_and, ↓ap_build, ↓pop_buildL, bld34_, evP, List.map_nil]
            repeat (with_reducible refine And.intro ?_ ?_; · first | trivial | omega | (intro hg; simp only [Bool.and_eq_true, Bool.or_eq_true, Bool.not_eq_true', Bool.and_eq_false_iff, Bool.or_eq_false_iff, Bool.not_eq_false', decide_eq_true_eq, decide_eq_false_iff_not, eqNil] at hg; omega) )
            refine aOps_store (v := .agg [.int .i64 0, .int .i64 0, .int .i64 0]) (by rfl) (by rfl) hz sz34 (by rfl) (by rfl) (by simp []) (Nat.zero_le _) (by rfl) ?_
            simp only [setAt, AVal.cells, List.set_cons_zero, List.set_cons_succ, Nat.zero_add, Nat.reduceAdd]
            rw [set_same_self hz]
            simp (decide := true) only [aOps_nil, putD, Slots.keep, if_true, if_false]
            repeat (with_reducible refine And.intro ?_ ?_; · first | trivial | omega | (intro hg; simp only [Bool.and_eq_true, Bool.or_eq_true, Bool.not_eq_true', Bool.and_eq_false_iff, Bool.or_eq_false_iff, Bool.not_eq_false', decide_eq_true_eq, decide_eq_false_iff_not, eqNil] at hg; omega) )
            apply hK; clear hK K
            refine awp_ret ?_
            try simp only [thenA_ret, inBlockA_ret]
            refine retA_retE (?_) ?_
            · simp (decide := true) only [resPre, resV_cell, Slots.get, if_true, and_true, resV_cell, pLoad_agg ag34 sz34, cellsAt, List.getD_cons_zero, List.getD_cons_succ, Nat.zero_add, Nat.reduceAdd, lv_int, allLive, Bool.and_true, cellsAt, List.getD_cons_zero, List.getD_cons_succ, Nat.zero_add, Nat.reduceAdd, lv_int, allLive, Bool.and_true, rd_own w₀ hz]
            
            simp (decide := true) only [Slots.get, if_true, resOfG_one, resV_cell, pLoad_agg ag34 sz34, cellsAt, List.getD_cons_zero, List.getD_cons_succ, Nat.zero_add, Nat.reduceAdd, lv_int, allLive, Bool.and_true, cellsAt, List.getD_cons_zero, List.getD_cons_succ, Nat.zero_add, Nat.reduceAdd, lv_int, allLive, Bool.and_true, rd_own w₀ hz]
            refine ⟨_, Sub.refl _, ?_⟩
            rw [hfin]
            exact ⟨rfl, _, _, _, _, rfl, i2, hsB, hsM⟩
end Go.Proofs.YtikpnhdjjabdmaaDoor

/-
  Contracts: Clip of marks and of cards; bounds of what has been read.
  Conditions: none.
-/
namespace Go.Proofs.YtikpnhdjjabdmaaDoor
open Go.AM
open Go.Proofs
open Go.Col
set_option maxRecDepth 100000

theorem c_clipM (w₀ : World) (h : AHeap) (v : AVal) (xs : List (List AVal)) (hv : IsL w₀ h 3 v xs) : ACall Tryd.prog w₀ 33 [v] h (fun r h' => r = capL v ∧ h' = h) := by
  have hlen := hv.len Tryd.underlying37
  have h3 := hv.slice3 Tryd.underlying37 sz57 .i64 .i64 none rfl
  refine acall_intro (n := 9) (rs := [.tmp 2]) Tryd.func33 rfl rfl rfl rfl (Nat.le_of_ble_eq_true rfl) ?_
  simp only [initSlots]
  -- region 0  slices.go:435
  refine awp_rseq [0] (by rfl) fun K hK => ?_
  simp (decide := true) only [aOps_nil, ev, absV, absS, putD, Slots.put, Slots.keep, if_true, if_false, true_and, ↓ap_assign, pop_assign]
  repeat (with_reducible refine And.intro ?_ ?_; · first | trivial | omega | (intro hg; simp only [Bool.and_eq_true, Bool.or_eq_true, Bool.not_eq_true', Bool.and_eq_false_iff, Bool.or_eq_false_iff, Bool.not_eq_false', decide_eq_true_eq, decide_eq_false_iff_not, eqNil] at hg; omega) )
  apply hK; clear hK K
  -- region 1  slices.go:436
  refine awp_rseq [2] (by rfl) fun K hK => ?_
  simp (decide := true) only [aOps_nil, ev, putD, Slots.put, Slots.get, Slots.keep, if_true, if_false, true_and, ↓ap_move, pop_move, ↓ap_len, pop_len, ↓ap_slice, pop_slice, evO, ↓ap_assign, pop_assign, hlen, h3]
  repeat (with_reducible refine And.intro ?_ ?_; · first | trivial | omega | (intro hg; simp only [Bool.and_eq_true, Bool.or_eq_true, Bool.not_eq_true', Bool.and_eq_false_iff, Bool.or_eq_false_iff, Bool.not_eq_false', decide_eq_true_eq, decide_eq_false_iff_not, eqNil] at hg; omega) )
  apply hK; clear hK K
  refine awp_ret ?_
  try simp only [thenA_ret, inBlockA_ret]
  refine retA_ret _ (Sub.refl _) (resPre_tmp (resPre_nil)) ?_
  simp (decide := true) only [Slots.get, if_true, and_true, resOf_one]
  all_goals first | rfl | exact ⟨rfl, rfl⟩ | (simp (decide := true) only [if_true, if_false, *]; done) | (trace_state; fail)
theorem c_clipC (w₀ : World) (h : AHeap) (v : AVal) (xs : List (List AVal)) (hv : IsL w₀ h 3 v xs) : ACall Tryd.prog w₀ 34 [v] h (fun r h' => r = capL v ∧ h' = h) := by
  have hlen := hv.len Tryd.underlying30
  have h3 := hv.slice3 Tryd.underlying30 sz39 .i64 .i64 none rfl
  refine acall_intro (n := 9) (rs := [.tmp 2]) Tryd.func34 rfl rfl rfl rfl (Nat.le_of_ble_eq_true rfl) ?_
  simp only [initSlots]
  -- region 0  slices.go:435
  refine awp_rseq [0] (by rfl) fun K hK => ?_
  simp (decide := true) only [aOps_nil, ev, absV, absS, putD, Slots.put, Slots.keep, if_true, if_false, true_and, ↓ap_assign, pop_assign]
  repeat (with_reducible refine And.intro ?_ ?_; · first | trivial | omega | (intro hg; simp only [Bool.and_eq_true, Bool.or_eq_true, Bool.not_eq_true', Bool.and_eq_false_iff, Bool.or_eq_false_iff, Bool.not_eq_false', decide_eq_true_eq, decide_eq_false_iff_not, eqNil] at hg; omega) )
  apply hK; clear hK K
  -- region 1  slices.go:436
  refine awp_rseq [2] (by rfl) fun K hK => ?_
  simp (decide := true) only [aOps_nil, ev, putD, Slots.put, Slots.get, Slots.keep, if_true, if_false, true_and, ↓ap_move, pop_move, ↓ap_len, pop_len, ↓ap_slice, pop_slice, evO, ↓ap_assign, pop_assign, hlen, h3]
  repeat (with_reducible refine And.intro ?_ ?_; · first | trivial | omega | (intro hg; simp only [Bool.and_eq_true, Bool.or_eq_true, Bool.not_eq_true', Bool.and_eq_false_iff, Bool.or_eq_false_iff, Bool.not_eq_false', decide_eq_true_eq, decide_eq_false_iff_not, eqNil] at hg; omega) )
  apply hK; clear hK K
  refine awp_ret ?_
  try simp only [thenA_ret, inBlockA_ret]
  refine retA_ret _ (Sub.refl _) (resPre_tmp (resPre_nil)) ?_
  simp (decide := true) only [Slots.get, if_true, and_true, resOf_one]
  all_goals first | rfl | exact ⟨rfl, rfl⟩ | (simp (decide := true) only [if_true, if_false, *]; done) | (trace_state; fail)
/-- What has been read is not greater than its lines. -/
structure RdSm (N : Nat) (x : Rd) : Prop where
  many : x.cards.length ≤ N
  small : ∀ c ∈ x.cards, c.text.length ≤ 80 * N ∧ c.marks.length ≤ N
theorem RdSm.next {N : Nat} {x : Rd} (h : RdSm N x) : RdSm (N + 1) x := ⟨by have := h.many; omega, fun c hc => by have := h.small c hc; omega⟩
theorem addC_small {c : CardC} {N : Nat} (h : c.text.length ≤ 80 * N ∧ c.marks.length ≤ N) (line col : Int) (t : Str) (ht : t.length ≤ 80) : (addC c line col t).text.length ≤ 80 * (N + 1) ∧ (addC c line col t).marks.length ≤ N + 1 := by
  have h1 := trimR_le t
  unfold addC
  simp only [List.length_append]
  constructor
  · split <;> omega
  · split <;> (try split) <;> (try simp only [List.length_append, List.length_cons, List.length_nil]) <;> omega
theorem addE_small {N : Nat} {x : Rd} (h : RdSm N x) (line col : Int) (t : Str) (ht : t.length ≤ 80) : RdSm (N + 1) (addE x line col t) := by
  rcases List.eq_nil_or_concat x.cards with e | ⟨l, c, e⟩
  · have : addE x line col t = x := by unfold addE; rw [e]; rfl
    rw [this]
    exact h.next
  · rw [List.concat_eq_append] at e
    rw [addE_last e]
    have hm := h.many
    rw [e] at hm
    simp only [List.length_append, List.length_cons, List.length_nil] at hm
    refine ⟨by simp; omega, fun d hd => ?_⟩
    rw [List.mem_append] at hd
    rcases hd with hd | hd
    · have := h.small d (by rw [e]; simp [hd])
      omega
    · rw [List.mem_singleton.1 hd]
      exact addC_small (h.small c (by rw [e]; simp)) line col t ht
theorem takeE_small {N : Nat} {x : Rd} (h : RdSm N x) {r : RowC} (ht : r.text.length ≤ 80) : RdSm (N + 1) (takeE x r).1 := by
  unfold takeE
  split
  · exact h.next
  split
  · have hp : RdSm N x := h
    have h' : RdSm (N + 1) ⟨x.cards ++ [⟨decide (r.col < 12), [], []⟩], x.line, x.col, x.odd⟩ := by
      refine ⟨by have := h.many; simp; omega, fun c hc => ?_⟩
      rw [List.mem_append] at hc
      rcases hc with hc | hc
      · exact h.next.small c hc
      · rw [List.mem_singleton.1 hc]
        simp
    refine ⟨?_, ?_⟩
    · have := h.many
      rw [addE_last (x := ⟨x.cards ++ [⟨decide (r.col < 12), [], []⟩], x.line, x.col, x.odd⟩) rfl]
      simp
      omega
    · intro c hc
      rw [addE_last (x := ⟨x.cards ++ [⟨decide (r.col < 12), [], []⟩], x.line, x.col, x.odd⟩) rfl] at hc
      simp only [List.mem_append, List.mem_singleton] at hc
      rcases hc with hc | rfl
      · exact h.next.small c hc
      · exact addC_small ⟨by simp, by simp⟩ _ _ _ ht
  split
  · exact h.next
  split
  · exact h.next
  split
  · exact addE_small h _ _ _ (by simp; omega)
  · exact addE_small h _ _ _ ht
theorem lineE_small {s : Str} {line : Int} {dbg : Bool} : (lineE s line dbg).1.text.length ≤ 65 ∧ ((lineE s line dbg).2.1 = true → (lineE s line dbg).1.text ≠ [] ∧ 0 ≤ (lineE s line dbg).1.col ∧ (lineE s line dbg).1.col ≤ 73) := by
  by_cases h80 : 80 < s.length
  · have : lineE s line dbg = (noRow, false, ⟨5, line, 81⟩) := by unfold lineE; rw [if_pos h80]
    rw [this]
    simp [noRow]
  · cases hb : badAt s with
    | some i =>
      have : lineE s line dbg = (noRow, false, ⟨4, line, (i : Int) + 1⟩) := by unfold lineE; rw [if_neg h80, hb]
      rw [this]
      simp [noRow]
    | none =>
      rw [lineE_none h80 hb]
      have h1 : (rowE s line).text.length ≤ 65 := Nat.le_trans (trimL_le _) (by simp; omega)
      have h2 : (rowE s line).col = 73 - (rowE s line).text.length := rfl
      split
      · exact ⟨h1, by simp⟩
      split
      · refine ⟨h1, fun h => ?_⟩
        simp only [Bool.and_eq_true, Bool.not_eq_true', decide_eq_false_iff_not] at h
        exact ⟨h.2, by simp only; omega, by simp only; omega⟩
      split
      · refine ⟨h1, fun h => ?_⟩
        simp only [Bool.not_eq_true', decide_eq_false_iff_not] at h
        exact ⟨h, by simp only; omega, by simp only; omega⟩
      · exact ⟨h1, by simp⟩
theorem splitNL_len : ∀ s : Str, (splitNL s).length ≤ s.length + 1
  | [] => by simp [splitNL]
  | b :: s => by
    have := splitNL_len s
    unfold splitNL
    split
    · simp; omega
    · split <;> simp_all <;> omega
theorem trimNL_len (s : Str) : (trimNL s).length ≤ s.length := by
  unfold trimNL
  split <;> simp
/-- A row of cards. -/
def IsCards (w₀ : World) (h : AHeap) (v : AVal) (cs : List CardC) : Prop := ∃ ps : List (CardC × AVal), ps.map (·.1) = cs ∧ IsL w₀ h 3 v (ps.map cell3) ∧ ∀ p ∈ ps, IsL w₀ h 3 p.2 (p.1.marks.map markC)
theorem IsCards.mono {w₀ : World} {h h' : AHeap} {v : AVal} {cs : List CardC} (hc : IsCards w₀ h v cs) (hs : Sub h h') : IsCards w₀ h' v cs := by
  obtain ⟨ps, h1, h2, h3⟩ := hc
  exact ⟨ps, h1, h2.mono hs, fun p hp => (h3 p hp).mono hs⟩
end Go.Proofs.YtikpnhdjjabdmaaDoor

/-
  Contracts: Read of the package columns.
  Conditions: none.
-/
namespace Go.Proofs.YtikpnhdjjabdmaaDoor
open Go.AM
open Go.Proofs
open Go.Col
set_option maxRecDepth 100000

/-- What Read answers. -/
def ReadR (w₀ : World) (h : AHeap) (text : Str) (dbg : Bool) (v : AVal) (h' : AHeap) : Prop := ∃ cv, v = .tuple [cv, faultA (readE text dbg).2] ∧ IsCards w₀ h' cv (readE text dbg).1 ∧ Sub h h'
structure RdL where
  i : Nat
  B : AHeap
  M : AHeap
  cb : Option Buf
  mb : Option Buf
  x : Rd
theorem faultA_eq (f : FaultC) : (decide (f.e = 0) && (decide (f.line = 0) && decide (f.col = 0))) = decide (f = okF) := by
  obtain ⟨a, b, c⟩ := f
  rw [Bool.eq_iff_iff]
  simp [okF]
theorem readL_skip {s : Str} {l : List Str} {n : Int} {x : Rd} {dbg : Bool} {r : RowC} {f : FaultC} (hp : lineE s n dbg = (r, false, f)) (hf : f = okF) : readL dbg (s :: l) n x = readL dbg l (n + 1) x := by
  rw [readL, hp]
  simp only
  rw [if_pos ⟨hf, trivial⟩]
theorem readL_fault {s : Str} {l : List Str} {n : Int} {x : Rd} {dbg : Bool} {r : RowC} {cn : Bool} {f : FaultC} (hp : lineE s n dbg = (r, cn, f)) (hf : f ≠ okF) : readL dbg (s :: l) n x = (x, f) := by
  rw [readL, hp]
  simp only
  rw [if_neg (fun e => hf e.1), if_neg hf]
theorem readL_bad {s : Str} {l : List Str} {n : Int} {x : Rd} {dbg : Bool} {r : RowC} {f : FaultC} (hp : lineE s n dbg = (r, true, f)) (hf : f = okF) (hg : (takeE x r).2 ≠ okF) : readL dbg (s :: l) n x = ((takeE x r).1, (takeE x r).2) := by
  rw [readL, hp]
  simp only
  rw [if_neg (fun e => by cases e.2), if_pos hf, if_neg hg]
theorem readL_take {s : Str} {l : List Str} {n : Int} {x : Rd} {dbg : Bool} {r : RowC} {f : FaultC} (hp : lineE s n dbg = (r, true, f)) (hf : f = okF) (hg : (takeE x r).2 = okF) : readL dbg (s :: l) n x = readL dbg l (n + 1) (takeE x r).1 := by
  rw [readL, hp]
  simp only
  rw [if_neg (fun e => by cases e.2), if_pos hf, if_pos hg]
theorem readE_fault {text : Str} {dbg : Bool} (hl : text.length ≤ 1048576) {x : Rd} {f : FaultC} (h : readL dbg (splitNL (trimNL text)) 1 .start = (x, f)) (hf : f ≠ okF) : readE text dbg = ([], f) := by
  unfold readE
  rw [if_neg (by omega), h]
  simp only
  rw [if_pos hf]
theorem splitNL_mem : ∀ (s : Str), ∀ l ∈ splitNL s, l.length ≤ s.length
  | [], l, h => by simp [splitNL] at h; subst h; simp
  | b :: s, l, h => by
    have ih := splitNL_mem s
    unfold splitNL at h
    split at h
    · rcases List.mem_cons.1 h with rfl | h
      · simp
      · have := ih l h; simp; omega
    · split at h
      · rename_i e
        simp only [List.mem_singleton] at h
        subst h
        simp
      · rename_i l0 ls e
        rcases List.mem_cons.1 h with rfl | h
        · have := ih l0 (by rw [e]; simp); simp; omega
        · have := ih l (by rw [e]; simp [h]); simp; omega
theorem readE_odd {text : Str} {dbg : Bool} (hl : text.length ≤ 1048576) {x : Rd} (h : readL dbg (splitNL (trimNL text)) 1 .start = (x, okF)) (ho : x.odd = true) : readE text dbg = ([], ⟨4, x.line, x.col⟩) := by
  unfold readE
  rw [if_neg (by omega), h]
  simp only
  rw [if_neg (by simp), if_pos ho]
theorem readE_ok {text : Str} {dbg : Bool} (hl : text.length ≤ 1048576) {x : Rd} (h : readL dbg (splitNL (trimNL text)) 1 .start = (x, okF)) (ho : x.odd = false) : readE text dbg = (x.cards, okF) := by
  unfold readE
  rw [if_neg (by omega), h]
  simp only
  rw [if_neg (by simp), if_neg (by rw [ho]; decide)]
/-- Nothing has been read. -/
theorem readEnd0 (w₀ : World) (h B0 : AHeap) (hs0 : Sub h B0) (kr kx : Nat) (text : Str) (dbg : Bool) (hl : text.length ≤ 1048576) (er : B0 kr = some ⟨[.int .i64 0, .int .i64 0, .int .i64 0], 0⟩) (hr : h kr = none)
    (B M : AHeap) (cb mb : Option Buf) (x : Rd) (ri : RdInv w₀ B0 kx B M cb mb x) (hcards : x.cards = []) (hrl : readL dbg (splitNL (trimNL text)) 1 .start = (x, okF)) :
    Awp Tryd.prog w₀ 82 (dropSeq 5 (unScope (dropSeq 1 (bodyOf Tryd.f11)))) (noGotoA (retA Tryd.prog w₀ [.tmp 4, .cell 5 34] (ReadR w₀ h text dbg))) [(5, .ptr (.own kr) 0), (6, .ptr (.own kx) 0)] (rdH kx B cb mb x) := by
  obtain ⟨rfl, rfl⟩ : cb = none ∧ mb = none := by
    rcases ri.cards with e | ⟨done, c, kc, e, _⟩
    · exact e.2
    · rw [hcards] at e; simp at e
  have rix := fun o => rd_own w₀ ri.at o
  have hnil : bufV 3 none = .nilSlice := rfl
  change Awp _ _ _ (Code.seq _ _) _ _ _
  refine awp_seq ?_
  -- region 15  columns.go:141
  refine awp_rseq [5, 6, 55] (by rfl) fun K hK => ?_
  simp (decide := true) only [aOps_nil, ev, putD, Slots.put, Slots.get, Slots.keep, if_true, if_false, true_and, ↓ap_fieldAddr, pop_fieldAddr, fa71_2, ↓ap_loadL, apL_mk, pLoad_one ag4, List.getD_cons_zero, List.getD_cons_succ, Nat.zero_add, lv_bool, rix, rdCells, hnil]
  repeat (with_reducible refine And.intro ?_ ?_; · first | trivial | omega | (intro hg; simp only [Bool.and_eq_true, Bool.or_eq_true, Bool.not_eq_true', Bool.and_eq_false_iff, Bool.or_eq_false_iff, Bool.not_eq_false', decide_eq_true_eq, decide_eq_false_iff_not, eqNil] at hg; omega) )
  apply hK; clear hK K
  refine awp_cond (b := _) rfl (fun hb1 => ?_) (fun hb1 => ?_)
  · try simp only [decide_eq_true_eq, decide_eq_false_iff_not, Bool.not_eq_true', Bool.not_eq_false', Bool.and_eq_true, Bool.and_eq_false_iff, Bool.or_eq_true, Bool.or_eq_false_iff, Bool.true_eq, Bool.false_eq, reduceCtorEq] at hb1
    have hres := readE_odd hl hrl hb1
    -- region 16  columns.go:142
    refine awp_dseq_tail 4 [4, 5] mixed (by kernel_rfl) (by rfl) (by rfl) fun K hK => ?_
    simp (decide := true) only [ev, absV, absS, putD, Slots.put, Slots.get, if_true, if_false, true_and, ↓ap_fieldAddr, pop_fieldAddr, fa71_1, ↓ap_loadL, apL_mk, pLoad_agg ag32 sz32, ↓ap_build, ↓pop_buildL, bld34_0_1, evP, List.map_cons, List.map_nil, ↓ap_assign, pop_assign, cellsAt, List.getD_cons_zero, List.getD_cons_succ, Nat.zero_add, Nat.reduceAdd, lv_int, allLive, Bool.and_true, rix, rdCells, hnil]
    repeat (with_reducible refine And.intro ?_ ?_; · first | trivial | omega | (intro hg; simp only [Bool.and_eq_true, Bool.or_eq_true, Bool.not_eq_true', Bool.and_eq_false_iff, Bool.or_eq_false_iff, Bool.not_eq_false', decide_eq_true_eq, decide_eq_false_iff_not, eqNil] at hg; omega) )
    refine aOps_store (v := .agg [.int .i64 4, .int .i64 x.line, .int .i64 x.col]) (by rfl) (by rfl) (ri.other (ri.sub _ _ er)) sz34 (by rfl) (by rfl) (by simp []) (Nat.zero_le _) (by rfl) ?_
    simp only [setAt, AVal.cells, List.set_cons_zero, List.set_cons_succ, Nat.zero_add, Nat.reduceAdd]
    simp (decide := true) only [aOps_nil, putD, Slots.keep, if_true, if_false]
    repeat (with_reducible refine And.intro ?_ ?_; · first | trivial | omega | (intro hg; simp only [Bool.and_eq_true, Bool.or_eq_true, Bool.not_eq_true', Bool.and_eq_false_iff, Bool.or_eq_false_iff, Bool.not_eq_false', decide_eq_true_eq, decide_eq_false_iff_not, eqNil] at hg; omega) )
    apply hK; clear hK K
    refine awp_ret ?_
    try simp only [thenA_ret, noGotoA_ret]
    refine retA_ret h (Sub.trans_set (hs0.trans ri.above) hr) (?_) ?_
    · simp (decide := true) only [resPre, resV_tmp, resV_cell, Slots.get, if_true, if_false, and_true, resV_tmp, resV_cell, pLoad_agg ag34 sz34, rd_set, cellsAt, List.getD_cons_zero, List.getD_cons_succ, Nat.zero_add, Nat.reduceAdd, lv_int, allLive, Bool.and_true, cellsAt, List.getD_cons_zero, List.getD_cons_succ, Nat.zero_add, Nat.reduceAdd, lv_int, allLive, Bool.and_true]
    
    simp (decide := true) only [Slots.get, if_true, if_false, resOfG_two, resV_tmp, resV_cell, pLoad_agg ag34 sz34, rd_set, cellsAt, List.getD_cons_zero, List.getD_cons_succ, Nat.zero_add, Nat.reduceAdd, lv_int, allLive, Bool.and_true, cellsAt, List.getD_cons_zero, List.getD_cons_succ, Nat.zero_add, Nat.reduceAdd, lv_int, allLive, Bool.and_true]
    exact ⟨.nilSlice, by rw [hres]; rfl, by rw [hres]; exact ⟨[], rfl, .nil, by simp⟩, Sub.refl _⟩
  · try simp only [decide_eq_true_eq, decide_eq_false_iff_not, Bool.not_eq_true', Bool.not_eq_false', Bool.and_eq_true, Bool.and_eq_false_iff, Bool.or_eq_true, Bool.or_eq_false_iff, Bool.true_eq, Bool.false_eq, reduceCtorEq] at hb1
    have hres := readE_ok hl hrl hb1
    refine awp_skip ?_
    change Awp _ _ _ _ _ _ _
    refine awp_seq ?_
    -- region 17  columns.go:144
    refine awp_rseq [5, 6, 61, 62] (by rfl) fun K hK => ?_
    simp (decide := true) only [aOps_nil, ev, absV, absS, putD, Slots.put, Slots.get, Slots.keep, if_true, if_false, true_and, ↓ap_fieldAddr, pop_fieldAddr, fa71_0, ↓ap_loadL, apL_mk, pLoad_one ag30, ↓ap_len, pop_len, pLen_nil Tryd.underlying30, ↓ap_move, pop_move, List.getD_cons_zero, Nat.zero_add, lv_nilSlice, rix, rdCells, hnil]
    repeat (with_reducible refine And.intro ?_ ?_; · first | trivial | omega | (intro hg; simp only [Bool.and_eq_true, Bool.or_eq_true, Bool.not_eq_true', Bool.and_eq_false_iff, Bool.or_eq_false_iff, Bool.not_eq_false', decide_eq_true_eq, decide_eq_false_iff_not, eqNil] at hg; omega) )
    apply hK; clear hK K
    refine awp_block ?_
    refine awp_loopG [5, 6, 61, 62] (fun g : Unit => [(5, .ptr (.own kr) 0), (6, .ptr (.own kx) 0), (61, .int .i64 0), (62, .int .i64 0)]) (fun g : Unit => rdH kx B none none x) (fun g : Unit => True) (fun g : Unit => 0) () (by rfl) (Sub.refl _) trivial ?_
    intro _ _
    -- region 18  columns.go:144
    refine awp_rseq [5, 6, 61, 62, 63] (by rfl) fun K hK => ?_
    simp (decide := true) only [aOps_nil, ev, putD, Slots.put, Slots.get, Slots.keep, if_true, if_false, true_and, ↓ap_binOp, pop_binOp, isNilC_tmp, cond_false, pBinX_int, pI_lss]
    repeat (with_reducible refine And.intro ?_ ?_; · first | trivial | omega | (intro hg; simp only [Bool.and_eq_true, Bool.or_eq_true, Bool.not_eq_true', Bool.and_eq_false_iff, Bool.or_eq_false_iff, Bool.not_eq_false', decide_eq_true_eq, decide_eq_false_iff_not, eqNil] at hg; omega) )
    apply hK; clear hK K
    refine awp_seq (awp_cond (b := _) rfl (fun hb2 => ?_) (fun hb2 => ?_))
    · exact absurd hb2 (by decide)
    · try simp only [decide_eq_false_iff_not] at hb2
      refine awp_exit ?_
      change Awp _ _ _ _ _ _ _
      -- region 22  columns.go:147
      refine awp_rseq [4, 5] (by rfl) fun K hK => ?_
      simp (decide := true) only [ev, putD, Slots.put, Slots.get, if_true, if_false, true_and, ↓ap_fieldAddr, pop_fieldAddr, fa71_0, ↓ap_loadL, apL_mk, pLoad_one ag30, List.getD_cons_zero, Nat.zero_add, lv_nilSlice, rix, rdCells, hnil]
      repeat (with_reducible refine And.intro ?_ ?_; · first | trivial | omega | (intro hg; simp only [Bool.and_eq_true, Bool.or_eq_true, Bool.not_eq_true', Bool.and_eq_false_iff, Bool.or_eq_false_iff, Bool.not_eq_false', decide_eq_true_eq, decide_eq_false_iff_not, eqNil] at hg; omega) )
      refine aOps_callV (V := .nilSlice) (by rfl) (by rfl) ((c_clipC w₀ _ .nilSlice [] .nil)) ?_
      simp (decide := true) only [ev, absV, absS, putD, Slots.put, Slots.get, if_true, if_false, true_and, ↓ap_build, ↓pop_buildL, bld34_, evP, List.map_nil, ↓ap_assign, pop_assign]
      repeat (with_reducible refine And.intro ?_ ?_; · first | trivial | omega | (intro hg; simp only [Bool.and_eq_true, Bool.or_eq_true, Bool.not_eq_true', Bool.and_eq_false_iff, Bool.or_eq_false_iff, Bool.not_eq_false', decide_eq_true_eq, decide_eq_false_iff_not, eqNil] at hg; omega) )
      refine aOps_store (v := .agg [.int .i64 0, .int .i64 0, .int .i64 0]) (by rfl) (by rfl) (ri.other (ri.sub _ _ er)) sz34 (by rfl) (by rfl) (by simp []) (Nat.zero_le _) (by rfl) ?_
      simp only [setAt, AVal.cells, List.set_cons_zero, List.set_cons_succ, Nat.zero_add, Nat.reduceAdd]
      simp (decide := true) only [aOps_nil, putD, Slots.keep, if_true, if_false]
      repeat (with_reducible refine And.intro ?_ ?_; · first | trivial | omega | (intro hg; simp only [Bool.and_eq_true, Bool.or_eq_true, Bool.not_eq_true', Bool.and_eq_false_iff, Bool.or_eq_false_iff, Bool.not_eq_false', decide_eq_true_eq, decide_eq_false_iff_not, eqNil] at hg; omega) )
      apply hK; clear hK K
      refine awp_ret ?_
      try simp only [noGotoA_ret]
      refine retA_ret h (Sub.trans_set (hs0.trans ri.above) hr) (?_) ?_
      · simp (decide := true) only [resPre, resV_tmp, resV_cell, Slots.get, if_true, if_false, and_true, resV_tmp, resV_cell, pLoad_agg ag34 sz34, rd_set, cellsAt, List.getD_cons_zero, List.getD_cons_succ, Nat.zero_add, Nat.reduceAdd, lv_int, allLive, Bool.and_true, cellsAt, List.getD_cons_zero, List.getD_cons_succ, Nat.zero_add, Nat.reduceAdd, lv_int, allLive, Bool.and_true]
      
      simp (decide := true) only [Slots.get, if_true, if_false, resOfG_two, resV_tmp, resV_cell, pLoad_agg ag34 sz34, rd_set, cellsAt, List.getD_cons_zero, List.getD_cons_succ, Nat.zero_add, Nat.reduceAdd, lv_int, allLive, Bool.and_true, cellsAt, List.getD_cons_zero, List.getD_cons_succ, Nat.zero_add, Nat.reduceAdd, lv_int, allLive, Bool.and_true]
      exact ⟨.nilSlice, by rw [hres]; rfl, by rw [hres, hcards]; exact ⟨[], rfl, .nil, by simp⟩, Sub.refl _⟩

def clipP (p : CardC × AVal) : CardC × AVal := (p.1, capL p.2)
theorem flat_len3 (l : List (CardC × AVal)) : (l.map cell3).flatten.length = l.length * 3 := by
  rw [flatten_len (es := 3) (by intro y hy; obtain ⟨p, _, rfl⟩ := List.mem_map.1 hy; rfl), List.length_map]
theorem flat_set : ∀ (l : List (CardC × AVal)) (i : Nat) (v : AVal) (hi : i < l.length), setAt (l.map cell3).flatten (i * 3 + 2) [v] = ((l.set i ((l[i]).1, v)).map cell3).flatten
  | p :: l, 0, v, _ => rfl
  | p :: l, i + 1, v, hi => by
    have ih := flat_set l i v (by simpa using hi)
    simp only [setAt] at ih ⊢
    simp only [List.map_cons, List.flatten_cons, List.set_cons_succ, List.getElem_cons_succ]
    rw [← ih, List.set_append_right _ _ (by rw [cell3_wide]; omega), cell3_wide, show (i + 1) * 3 + 2 - 3 = i * 3 + 2 by omega]
theorem flat_get (l : List (CardC × AVal)) (i : Nat) (hi : i < l.length) : (l.map cell3).flatten.getD (i * 3 + 2) .dead = (l[i]).2 := by
  rw [List.getD, flatten_get (es := 3) (by intro y hy; obtain ⟨p, _, rfl⟩ := List.mem_map.1 hy; rfl) (by rw [List.length_map]; exact hi) (by decide)]
  simp [List.getD, hi, cell3]
/-- The marks of the first i cards have been cut to size. -/
def psi (ps : List (CardC × AVal)) (i : Nat) : List (CardC × AVal) := (ps.take i).map clipP ++ ps.drop i
theorem psi_len (ps : List (CardC × AVal)) (i : Nat) : (psi ps i).length = ps.length := by
  unfold psi
  simp
  omega
theorem psi_get (ps : List (CardC × AVal)) (i : Nat) (hi : i < ps.length) : (psi ps i)[i]'(by rw [psi_len]; exact hi) = ps[i] := by
  unfold psi
  rw [List.getElem_append_right (by simp; omega)]
  simp [Nat.min_eq_left (Nat.le_of_lt hi)]
theorem psi_next (ps : List (CardC × AVal)) (i : Nat) (hi : i < ps.length) : (psi ps i).set i (clipP ps[i]) = psi ps (i + 1) := by
  unfold psi
  have hl : ((ps.take i).map clipP).length = i := by simp; omega
  rw [List.set_append_right _ _ (by omega), hl, Nat.sub_self, List.drop_eq_getElem_cons hi, List.set_cons_zero, List.take_add_one, List.getElem?_eq_getElem hi, Option.toList_some, List.map_append, List.append_assoc]
  rfl
theorem bufOk_blk {H : AHeap} {es : Nat} {b : Option Buf} {c : Buf} (h : bufOk H es b) (e : b = some c) : H c.blk = none := by subst e; exact h.1
theorem bufH_blk {H : AHeap} {b : Option Buf} {c : Buf} (e : b = some c) : bufH H b = H.set c.blk ⟨c.cells, 0⟩ := by subst e; rfl
theorem readEnd1 (w₀ : World) (h B0 : AHeap) (hs0 : Sub h B0) (kr kx : Nat) (text : Str) (dbg : Bool) (hl : text.length ≤ 1048576) (er : B0 kr = some ⟨[.int .i64 0, .int .i64 0, .int .i64 0], 0⟩) (hr : h kr = none)
    (B M : AHeap) (cb mb : Option Buf) (x : Rd) (ri : RdInv w₀ B0 kx B M cb mb x) (hcards : x.cards ≠ []) (hsm : x.cards.length ≤ 1099511627776) (hrl : readL dbg (splitNL (trimNL text)) 1 .start = (x, okF)) :
    Awp Tryd.prog w₀ 82 (dropSeq 5 (unScope (dropSeq 1 (bodyOf Tryd.f11)))) (noGotoA (retA Tryd.prog w₀ [.tmp 4, .cell 5 34] (ReadR w₀ h text dbg))) [(5, .ptr (.own kr) 0), (6, .ptr (.own kx) 0)] (rdH kx B cb mb x) := by
  obtain ⟨ps, kc, hps, hcb, hv, hL, hMM, hMk⟩ : ∃ (ps : List (CardC × AVal)) (kc : Nat), ps.map (·.1) = x.cards ∧ cb = some ⟨kc, (ps.map cell3).flatten⟩ ∧ bufV 3 cb = .slice (.own kc) 0 ps.length (.grow 3) ∧ (∀ p ∈ ps, IsL w₀ (bufH M mb) 3 p.2 (p.1.marks.map markC)) ∧ bufH M mb kc = none ∧ Sub (bufH M mb) (rdH kx B cb mb x) := by
    rcases ri.cards with ⟨e, _⟩ | ⟨done, c, kc, e1, e2, e3, e4⟩
    · exact absurd e hcards
    · obtain ⟨q1, q2, q3⟩ := bufSwap ri.okc ri.okm
      obtain ⟨p1, p2, p3⟩ := bufPut (d := ⟨rdCells cb x, 0⟩) q2
      have pM := p2.sub ri.subM
      have hf : (done.map cell3).flatten ++ [.bool c.left, .str c.text, bufV 3 mb] = ((done ++ [(c, bufV 3 mb)]).map cell3).flatten := by simp [cell3]
      have hkc : (bufH (B.set kx ⟨rdCells cb x, 0⟩) mb) kc = none := bufOk_blk q3 e2
      have hkx : kc ≠ kx := fun e => by
        rw [p1, e, AHeap.set_same] at hkc
        cases hkc
      have hMB : Sub (bufH M mb) (bufH B mb) := by
        cases mb with
        | none => exact ri.subM
        | some b => exact Sub.set_both ri.subM _ _
      have hkcB : bufH B mb kc = none := by rwa [p1, AHeap.set_ne _ _ hkx] at hkc
      refine ⟨done ++ [(c, bufV 3 mb)], kc, by rw [e1]; simp, by rw [e2, hf], ?_, fun p hp => ?_, hMB.none hkcB, ?_⟩
      · rw [e2, bufV_some, hf, flat_len3]
        simp
      · rw [List.mem_append] at hp
        rcases hp with hp | hp
        · exact (e4 p hp).mono (Sub.buf pM)
        · rw [List.mem_singleton.1 hp]
          exact IsL.buf pM (by decide) e3 (by intro y hy; obtain ⟨m, _, rfl⟩ := List.mem_map.1 hy; rfl) (Sub.refl _)
      · refine Sub.trans hMB ?_
        unfold rdH
        rw [q1, bufH_blk e2]
        refine Sub.trans ?_ (Sub.set hkc)
        rw [p1]
        exact Sub.set (by rw [p3]; exact ri.hk)
  have hkcx : (rdH kx B cb mb x) kc = some ⟨(ps.map cell3).flatten, 0⟩ := by
    have := ri.okm
    unfold rdH
    exact bufAt ri.okm (by rw [hcb]; exact AHeap.set_same _ _ _)
  have hkx := ri.at
  have hne : kx ≠ kc := fun e => by
    rw [← e, hkx] at hkcx
    have := congrArg (fun o => (o.map fun b => b.cells.length).getD 0) hkcx
    simp only [Option.map_some, Option.getD_some, rdCells, List.length_cons, List.length_nil, flat_len3] at this
    omega
  have hlenp : ps.length = x.cards.length := by rw [← hps, List.length_map]
  have hkr := ri.other (ri.sub _ _ er)
  have hrc : kr ≠ kc := fun e => by
    rw [e, hkcx] at hkr
    have := congrArg (fun o => (o.map fun b => b.cells.length).getD 0) hkr
    simp only [Option.map_some, Option.getD_some, List.length_cons, List.length_nil, flat_len3] at this
    have h1 : ps.length = 1 := by omega
    match ps, h1 with
    | [p], _ => simp [cell3] at hkr
  have hhc : h kc = none := by
    cases hc : h kc with
    | none => rfl
    | some b =>
      have := ri.sub _ _ (hs0 _ _ hc)
      have h2 := ri.okc
      rw [hcb] at h2
      have := (AHeap.set_ne B ⟨rdCells (some ⟨kc, (ps.map cell3).flatten⟩) x, 0⟩ hne.symm).symm.trans h2.1
      simp_all
  obtain ⟨H0, hH0⟩ : ∃ H0, H0 = rdH kx B cb mb x := ⟨_, rfl⟩
  have hsub : Sub h H0 := by rw [hH0]; exact hs0.trans ri.above
  rw [← hH0] at hkcx hkx hkr hMk ⊢
  have rix := fun o => rd_own w₀ hkx o
  change Awp _ _ _ (Code.seq _ _) _ _ _
  refine awp_seq ?_
  -- region 15  columns.go:141
  refine awp_rseq [5, 6, 55] (by rfl) fun K hK => ?_
  simp (decide := true) only [aOps_nil, ev, putD, Slots.put, Slots.get, Slots.keep, if_true, if_false, true_and, ↓ap_fieldAddr, pop_fieldAddr, fa71_2, ↓ap_loadL, apL_mk, pLoad_one ag4, List.getD_cons_zero, List.getD_cons_succ, Nat.zero_add, lv_bool, rix, rdCells, hv]
  repeat (with_reducible refine And.intro ?_ ?_; · first | trivial | omega | (intro hg; simp only [Bool.and_eq_true, Bool.or_eq_true, Bool.not_eq_true', Bool.and_eq_false_iff, Bool.or_eq_false_iff, Bool.not_eq_false', decide_eq_true_eq, decide_eq_false_iff_not, eqNil] at hg; omega) )
  apply hK; clear hK K
  refine awp_cond (b := _) rfl (fun hb1 => ?_) (fun hb1 => ?_)
  · try simp only [decide_eq_true_eq, decide_eq_false_iff_not, Bool.not_eq_true', Bool.not_eq_false', Bool.and_eq_true, Bool.and_eq_false_iff, Bool.or_eq_true, Bool.or_eq_false_iff, Bool.true_eq, Bool.false_eq, reduceCtorEq] at hb1
    have hres := readE_odd hl hrl hb1
    -- region 16  columns.go:142
    refine awp_dseq_tail 4 [4, 5] mixed (by kernel_rfl) (by rfl) (by rfl) fun K hK => ?_
    simp (decide := true) only [ev, absV, absS, putD, Slots.put, Slots.get, if_true, if_false, true_and, ↓ap_fieldAddr, pop_fieldAddr, fa71_1, ↓ap_loadL, apL_mk, pLoad_agg ag32 sz32, ↓ap_build, ↓pop_buildL, bld34_0_1, evP, List.map_cons, List.map_nil, ↓ap_assign, pop_assign, cellsAt, List.getD_cons_zero, List.getD_cons_succ, Nat.zero_add, Nat.reduceAdd, lv_int, allLive, Bool.and_true, rix, rdCells, hv]
    repeat (with_reducible refine And.intro ?_ ?_; · first | trivial | omega | (intro hg; simp only [Bool.and_eq_true, Bool.or_eq_true, Bool.not_eq_true', Bool.and_eq_false_iff, Bool.or_eq_false_iff, Bool.not_eq_false', decide_eq_true_eq, decide_eq_false_iff_not, eqNil] at hg; omega) )
    refine aOps_store (v := .agg [.int .i64 4, .int .i64 x.line, .int .i64 x.col]) (by rfl) (by rfl) hkr sz34 (by rfl) (by rfl) (by simp []) (Nat.zero_le _) (by rfl) ?_
    simp only [setAt, AVal.cells, List.set_cons_zero, List.set_cons_succ, Nat.zero_add, Nat.reduceAdd]
    simp (decide := true) only [aOps_nil, putD, Slots.keep, if_true, if_false]
    repeat (with_reducible refine And.intro ?_ ?_; · first | trivial | omega | (intro hg; simp only [Bool.and_eq_true, Bool.or_eq_true, Bool.not_eq_true', Bool.and_eq_false_iff, Bool.or_eq_false_iff, Bool.not_eq_false', decide_eq_true_eq, decide_eq_false_iff_not, eqNil] at hg; omega) )
    apply hK; clear hK K
    refine awp_ret ?_
    try simp only [thenA_ret, noGotoA_ret]
    refine retA_ret h (Sub.trans_set hsub hr) (?_) ?_
    · simp (decide := true) only [resPre, resV_tmp, resV_cell, Slots.get, if_true, if_false, and_true, resV_tmp, resV_cell, pLoad_agg ag34 sz34, rd_set, cellsAt, List.getD_cons_zero, List.getD_cons_succ, Nat.zero_add, Nat.reduceAdd, lv_int, allLive, Bool.and_true, cellsAt, List.getD_cons_zero, List.getD_cons_succ, Nat.zero_add, Nat.reduceAdd, lv_int, allLive, Bool.and_true]
    
    simp (decide := true) only [Slots.get, if_true, if_false, resOfG_two, resV_tmp, resV_cell, pLoad_agg ag34 sz34, rd_set, cellsAt, List.getD_cons_zero, List.getD_cons_succ, Nat.zero_add, Nat.reduceAdd, lv_int, allLive, Bool.and_true, cellsAt, List.getD_cons_zero, List.getD_cons_succ, Nat.zero_add, Nat.reduceAdd, lv_int, allLive, Bool.and_true]
    exact ⟨.nilSlice, by rw [hres]; rfl, by rw [hres]; exact ⟨[], rfl, .nil, by simp⟩, Sub.refl _⟩
  · try simp only [decide_eq_true_eq, decide_eq_false_iff_not, Bool.not_eq_true', Bool.not_eq_false', Bool.and_eq_true, Bool.and_eq_false_iff, Bool.or_eq_true, Bool.or_eq_false_iff, Bool.true_eq, Bool.false_eq, reduceCtorEq] at hb1
    have hres := readE_ok hl hrl hb1
    refine awp_skip ?_
    change Awp _ _ _ _ _ _ _
    refine awp_seq ?_
    -- region 17  columns.go:144
    refine awp_rseq [5, 6, 61, 62] (by rfl) fun K hK => ?_
    simp (decide := true) only [aOps_nil, ev, absV, absS, putD, Slots.put, Slots.get, Slots.keep, if_true, if_false, true_and, ↓ap_fieldAddr, pop_fieldAddr, fa71_0, ↓ap_loadL, apL_mk, pLoad_one ag30, ↓ap_len, pop_len, pLen_slice Tryd.underlying30, ↓ap_move, pop_move, List.getD_cons_zero, Nat.zero_add, lv_slice, rix, rdCells, hv]
    repeat (with_reducible refine And.intro ?_ ?_; · first | trivial | omega | (intro hg; simp only [Bool.and_eq_true, Bool.or_eq_true, Bool.not_eq_true', Bool.and_eq_false_iff, Bool.or_eq_false_iff, Bool.not_eq_false', decide_eq_true_eq, decide_eq_false_iff_not, eqNil] at hg; omega) )
    apply hK; clear hK K
    refine awp_block ?_
    refine awp_loopG [5, 6, 61, 62] (fun i : Nat => [(5, .ptr (.own kr) 0), (6, .ptr (.own kx) 0), (61, .int .i64 ps.length), (62, .int .i64 i)]) (fun i : Nat => H0.set kc ⟨((psi ps i).map cell3).flatten, 0⟩) (fun i : Nat => i ≤ ps.length) (fun i : Nat => ps.length - i) 0 (by rfl) (by rw [show psi ps 0 = ps from rfl, set_same_self hkcx]; exact Sub.refl _) (Nat.zero_le _) ?_
    intro i hi
    have hkxi := (AHeap.set_ne H0 ⟨((psi ps i).map cell3).flatten, 0⟩ hne).trans hkx
    have rii := fun o => rd_own w₀ hkxi o
    -- region 18  columns.go:144
    refine awp_rseq [5, 6, 61, 62, 63] (by rfl) fun K hK => ?_
    simp (decide := true) only [aOps_nil, ev, putD, Slots.put, Slots.get, Slots.keep, if_true, if_false, true_and, ↓ap_binOp, pop_binOp, isNilC_tmp, cond_false, pBinX_int, pI_lss]
    repeat (with_reducible refine And.intro ?_ ?_; · first | trivial | omega | (intro hg; simp only [Bool.and_eq_true, Bool.or_eq_true, Bool.not_eq_true', Bool.and_eq_false_iff, Bool.or_eq_false_iff, Bool.not_eq_false', decide_eq_true_eq, decide_eq_false_iff_not, eqNil] at hg; omega) )
    apply hK; clear hK K
    refine awp_seq (awp_cond (b := _) rfl (fun hb2 => ?_) (fun hb2 => ?_))
    · try simp only [decide_eq_true_eq] at hb2
      have hi' : i < ps.length := by omega
      have hg : ((psi ps i).map cell3).flatten.getD (i * 3 + 2) .dead = (ps[i]).2 := by rw [flat_get _ _ (by rw [psi_len]; exact hi'), psi_get ps i hi']
      have hMi : Sub (bufH M mb) (H0.set kc ⟨((psi ps i).map cell3).flatten, 0⟩) := Sub.trans_set hMk hMM
      have hLi := (hL _ (List.getElem_mem hi')).mono hMi
      have hlv := hLi.live
      refine awp_skip ?_
      change Awp _ _ _ _ _ _ _
      refine awp_seq ?_
      refine awp_block ?_
      -- region 19  columns.go:144
      refine awp_rseq [5, 6, 13, 61, 62] (by rfl) fun K hK => ?_
      simp (decide := true) only [aOps_nil, ev, putD, Slots.put, Slots.get, Slots.keep, if_true, if_false, true_and, ↓ap_move, pop_move, ↓ap_assign, pop_assign]
      repeat (with_reducible refine And.intro ?_ ?_; · first | trivial | omega | (intro hg; simp only [Bool.and_eq_true, Bool.or_eq_true, Bool.not_eq_true', Bool.and_eq_false_iff, Bool.or_eq_false_iff, Bool.not_eq_false', decide_eq_true_eq, decide_eq_false_iff_not, eqNil] at hg; omega) )
      apply hK; clear hK K
      -- region 20  columns.go:145
      refine awp_draw_anyT 12 mixed (by kernel_rfl) (by rfl) ?_
      simp only [List.take_succ_cons, List.take_zero, List.drop_succ_cons, List.drop_zero]
      simp (decide := true) only [ev, putD, Slots.put, Slots.get, if_true, if_false, true_and, ↓vp_fieldAddr, pop_fieldAddr, fa71_0, ↓vp_load, pop_load, pLoad_one ag30, ↓vp_move, pop_move, ↓vp_indexAddr, pIndexAddr_slice Tryd.underlying30 sz39, pop_indexAddr, fa39_2, pLoad_one ag37, rd_any, List.getD_cons_zero, Nat.zero_add, lv_slice, rii, rdCells, hv, Int.toNat_natCast, hg, hlv]
      repeat (with_reducible refine And.intro ?_ ?_; · first | trivial | omega | (intro hg; simp only [Bool.and_eq_true, Bool.or_eq_true, Bool.not_eq_true', Bool.and_eq_false_iff, Bool.or_eq_false_iff, Bool.not_eq_false', decide_eq_true_eq, decide_eq_false_iff_not, eqNil] at hg; omega) )
      refine vOps_callV (V := capL (ps[i]).2) (by rfl) (by rfl) (c_clipM w₀ _ _ _ hLi) ?_
      simp (decide := true) only [vOps_nil, ev, putD, Slots.put, Slots.get, if_true, if_false, true_and, ↓vp_indexAddr, pIndexAddr_slice Tryd.underlying30 sz39, pop_indexAddr, ↓vp_fieldAddr, pop_fieldAddr, fa39_2, Nat.zero_add, Int.toNat_natCast]
      repeat (with_reducible refine And.intro ?_ ?_; · first | trivial | omega | (intro hg; simp only [Bool.and_eq_true, Bool.or_eq_true, Bool.not_eq_true', Bool.and_eq_false_iff, Bool.or_eq_false_iff, Bool.not_eq_false', decide_eq_true_eq, decide_eq_false_iff_not, eqNil] at hg; omega) )
      try simp only [vOps_nil, fOps_nil]
      have hcl := hLi.clip
      have hset : setAt ((psi ps i).map cell3).flatten (i * 3 + 2) [capL (ps[i]).2] = ((psi ps (i + 1)).map cell3).flatten := by
        rw [flat_set _ _ _ (by rw [psi_len]; exact hi'), psi_get ps i hi', ← psi_next ps i hi']
        rfl
      refine aOps_store (v := capL (ps[i]).2) (by rfl) (by rfl) (AHeap.set_same _ _ _) sz37 hcl.live (by rw [hcl.cells]; rfl) (by simp only []; rw [flat_len3, psi_len]; omega) (Nat.zero_le _) (by rw [hcl.cells]; simp [allScal, hcl.scal]) ?_
      rw [AHeap.set_set, hcl.cells]
      simp only []
      rw [hset]
      simp (decide := true) only [aOps_nil, putD]
      repeat (with_reducible refine And.intro ?_ ?_; · first | trivial | omega | (intro hg; simp only [Bool.and_eq_true, Bool.or_eq_true, Bool.not_eq_true', Bool.and_eq_false_iff, Bool.or_eq_false_iff, Bool.not_eq_false', decide_eq_true_eq, decide_eq_false_iff_not, eqNil] at hg; omega) )
      change Awp _ _ _ _ _ _ _
      -- region 21  columns.go:144
      refine awp_r [5, 6, 61, 62] (by rfl) ?_
      simp (decide := true) only [aOps_nil, ev, absV, absS, putD, Slots.put, Slots.get, Slots.keep, if_true, if_false, true_and, ↓ap_binOp, pop_binOp, isNilC_int, cond_false, pBinX_int, pI_add, ↓ap_move, pop_move]
      try simp (disch := omega) only [wrap_i64]
      repeat (with_reducible refine And.intro ?_ ?_; · first | trivial | omega | (intro hg; simp only [Bool.and_eq_true, Bool.or_eq_true, Bool.not_eq_true', Bool.and_eq_false_iff, Bool.or_eq_false_iff, Bool.not_eq_false', decide_eq_true_eq, decide_eq_false_iff_not, eqNil] at hg; omega) )
      try simp only [thenA_normal]
      exact ⟨i + 1, rfl, Sub.refl _, by omega, by omega⟩
    · try simp only [decide_eq_false_iff_not] at hb2
      obtain rfl : i = ps.length := by omega
      have hpsi : psi ps ps.length = ps.map clipP := by simp [psi]
      rw [hpsi] at hkxi rii ⊢
      have hlive : ∀ p ∈ ps, IsL w₀ (H0.set kc ⟨((ps.map clipP).map cell3).flatten, 0⟩) 3 (capL p.2) (p.1.marks.map markC) := fun p hp => ((hL p hp).mono (Sub.trans_set hMk hMM)).clip
      have hLc : IsL w₀ (H0.set kc ⟨((ps.map clipP).map cell3).flatten, 0⟩) 3 (.slice (.own kc) 0 ps.length (.grow 3)) ((ps.map clipP).map cell3) := by
        have := IsL.own (w₀ := w₀) (es := 3) (xs := (ps.map clipP).map cell3) (AHeap.set_same H0 kc ⟨((ps.map clipP).map cell3).flatten, 0⟩) (by intro y hy; obtain ⟨p, _, rfl⟩ := List.mem_map.1 hy; rfl) rfl (allLive_flatten.2 (by
          intro y hy
          obtain ⟨p, hp, rfl⟩ := List.mem_map.1 hy
          obtain ⟨q, hq, rfl⟩ := List.mem_map.1 hp
          show (true && (true && ((capL q.2).live && true))) = true
          rw [(hlive q hq).live]
          rfl)) (.grow 3) rfl
        simpa using this
      have hkr' := (AHeap.set_ne H0 ⟨((ps.map clipP).map cell3).flatten, 0⟩ hrc).trans hkr
      refine awp_exit ?_
      change Awp _ _ _ _ _ _ _
      -- region 22  columns.go:147
      refine awp_rseq [4, 5] (by rfl) fun K hK => ?_
      simp (decide := true) only [ev, putD, Slots.put, Slots.get, if_true, if_false, true_and, ↓ap_fieldAddr, pop_fieldAddr, fa71_0, ↓ap_loadL, apL_mk, pLoad_one ag30, List.getD_cons_zero, Nat.zero_add, lv_slice, rii, rdCells, hv]
      repeat (with_reducible refine And.intro ?_ ?_; · first | trivial | omega | (intro hg; simp only [Bool.and_eq_true, Bool.or_eq_true, Bool.not_eq_true', Bool.and_eq_false_iff, Bool.or_eq_false_iff, Bool.not_eq_false', decide_eq_true_eq, decide_eq_false_iff_not, eqNil] at hg; omega) )
      refine aOps_callV (V := .slice (.own kc) 0 ps.length (.exact ps.length)) (by rfl) (by rfl) (c_clipC w₀ _ _ _ hLc) ?_
      simp (decide := true) only [ev, absV, absS, putD, Slots.put, Slots.get, if_true, if_false, true_and, ↓ap_build, ↓pop_buildL, bld34_, evP, List.map_nil, ↓ap_assign, pop_assign]
      repeat (with_reducible refine And.intro ?_ ?_; · first | trivial | omega | (intro hg; simp only [Bool.and_eq_true, Bool.or_eq_true, Bool.not_eq_true', Bool.and_eq_false_iff, Bool.or_eq_false_iff, Bool.not_eq_false', decide_eq_true_eq, decide_eq_false_iff_not, eqNil] at hg; omega) )
      refine aOps_store (v := .agg [.int .i64 0, .int .i64 0, .int .i64 0]) (by rfl) (by rfl) hkr' sz34 (by rfl) (by rfl) (by simp []) (Nat.zero_le _) (by rfl) ?_
      simp only [setAt, AVal.cells, List.set_cons_zero, List.set_cons_succ, Nat.zero_add, Nat.reduceAdd]
      rw [set_same_self hkr']
      simp (decide := true) only [aOps_nil, putD, Slots.keep, if_true, if_false]
      repeat (with_reducible refine And.intro ?_ ?_; · first | trivial | omega | (intro hg; simp only [Bool.and_eq_true, Bool.or_eq_true, Bool.not_eq_true', Bool.and_eq_false_iff, Bool.or_eq_false_iff, Bool.not_eq_false', decide_eq_true_eq, decide_eq_false_iff_not, eqNil] at hg; omega) )
      apply hK; clear hK K
      refine awp_ret ?_
      try simp only [noGotoA_ret]
      refine retA_ret (H0.set kc ⟨((ps.map clipP).map cell3).flatten, 0⟩) (Sub.refl _) (?_) ?_
      · simp (decide := true) only [resPre, resV_tmp, resV_cell, Slots.get, if_true, if_false, and_true, resV_tmp, resV_cell, pLoad_agg ag34 sz34, cellsAt, List.getD_cons_zero, List.getD_cons_succ, Nat.zero_add, Nat.reduceAdd, lv_int, allLive, Bool.and_true, cellsAt, List.getD_cons_zero, List.getD_cons_succ, Nat.zero_add, Nat.reduceAdd, lv_int, allLive, Bool.and_true, rd_own w₀ hkr']
      
      simp (decide := true) only [Slots.get, if_true, if_false, resOfG_two, resV_tmp, resV_cell, pLoad_agg ag34 sz34, cellsAt, List.getD_cons_zero, List.getD_cons_succ, Nat.zero_add, Nat.reduceAdd, lv_int, allLive, Bool.and_true, cellsAt, List.getD_cons_zero, List.getD_cons_succ, Nat.zero_add, Nat.reduceAdd, lv_int, allLive, Bool.and_true, rd_own w₀ hkr']
      exact ⟨_, by rw [hres]; rfl, by rw [hres]; exact ⟨ps.map clipP, by rw [List.map_map]; exact hps, hLc.clip, fun p hp => by obtain ⟨q, hq, rfl⟩ := List.mem_map.1 hp; exact hlive q hq⟩, Sub.trans_set hsub hhc⟩
theorem readEnd (w₀ : World) (h B0 : AHeap) (hs0 : Sub h B0) (kr kx : Nat) (text : Str) (dbg : Bool) (hl : text.length ≤ 1048576) (er : B0 kr = some ⟨[.int .i64 0, .int .i64 0, .int .i64 0], 0⟩) (hr : h kr = none)
    (B M : AHeap) (cb mb : Option Buf) (x : Rd) (ri : RdInv w₀ B0 kx B M cb mb x) (hsm : x.cards.length ≤ 1099511627776) (hrl : readL dbg (splitNL (trimNL text)) 1 .start = (x, okF)) :
    Awp Tryd.prog w₀ 82 (dropSeq 5 (unScope (dropSeq 1 (bodyOf Tryd.f11)))) (noGotoA (retA Tryd.prog w₀ [.tmp 4, .cell 5 34] (ReadR w₀ h text dbg))) [(5, .ptr (.own kr) 0), (6, .ptr (.own kx) 0)] (rdH kx B cb mb x) := by
  by_cases hc : x.cards = []
  · exact readEnd0 w₀ h B0 hs0 kr kx text dbg hl er hr B M cb mb x ri hc hrl
  · exact readEnd1 w₀ h B0 hs0 kr kx text dbg hl er hr B M cb mb x ri hc hsm hrl
end Go.Proofs.YtikpnhdjjabdmaaDoor

